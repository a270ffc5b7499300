/- Clauses: what follows by clauses of one literal. -/
import Derived.Test.YtingdebioipemaaDoorAmD
import Derived.Test.YtingdebioipemaaDoorTabB
import Derived.KernelRfl
/- Clauses: what follows by clauses of one literal. -/
namespace Go.Cl
open Go Go.Am
set_option maxRecDepth 100000
def neg (n : Int) : Int := if n = -9223372036854775808 then n else -n
inductive UP (F : List (List Int)) : Int → Prop
  | mk (c : List Int) (n : Int) : c ∈ F → n ∈ c → (∀ m ∈ c, m ≠ n → UP F (-m)) → UP F n
def Confl (F : List (List Int)) : Prop := ∃ c ∈ F, ∀ m ∈ c, UP F (-m)
theorem UP.mono {F G : List (List Int)} (h : ∀ c ∈ F, c ∈ G) {n : Int} (u : UP F n) : UP G n := by
  induction u with
  | mk c n hc hn _ ih => exact .mk c n (h c hc) hn ih
theorem Confl.mono {F G : List (List Int)} (h : ∀ c ∈ F, c ∈ G) : Confl F → Confl G := fun ⟨c, hc, hm⟩ => ⟨c, h c hc, fun m x => (hm m x).mono h⟩
theorem UP.same {F G : List (List Int)} (h : ∀ c ∈ F, ∃ d ∈ G, ∀ m, m ∈ d ↔ m ∈ c) {n : Int} (u : UP F n) : UP G n := by
  induction u with
  | mk c n hc hn _ ih =>
    obtain ⟨d, hd, e⟩ := h c hc
    exact .mk d n hd ((e n).2 hn) fun m hm hne => ih m ((e m).1 hm) hne
theorem Confl.same {F G : List (List Int)} (h : ∀ c ∈ F, ∃ d ∈ G, ∀ m, m ∈ d ↔ m ∈ c) : Confl F → Confl G := fun ⟨c, hc, hm⟩ => by
  obtain ⟨d, hd, e⟩ := h c hc
  exact ⟨d, hd, fun m x => (hm m ((e m).1 x)).same h⟩
theorem UP.in {F : List (List Int)} {n : Int} (u : UP F n) : ∃ c ∈ F, n ∈ c := by
  cases u with
  | mk c _ hc hn _ => exact ⟨c, hc, hn⟩
structure Closed (F : List (List Int)) (S : Int → Prop) : Prop where
  cons : ∀ n, S n → ¬ S (-n)
  clause : ∀ c ∈ F, (∃ n ∈ c, S n) ∨ ∃ n ∈ c, ∃ m ∈ c, n ≠ m ∧ ¬ S (-n) ∧ ¬ S (-m)
theorem Closed.up {F : List (List Int)} {S : Int → Prop} (h : Closed F S) {n : Int} (u : UP F n) : S n := by
  induction u with
  | mk c n hc hn _ ih =>
    rcases h.clause c hc with ⟨m, hm, hs⟩ | ⟨a, ha, b, hb, hne, sa, sb⟩
    · by_cases e : m = n
      · exact e ▸ hs
      · exact absurd (ih m hm e) (h.cons m hs)
    · by_cases e : a = n
      · exact absurd (ih b hb fun x => hne (e.trans x.symm)) sb
      · exact absurd (ih a ha e) sa
theorem Closed.no {F : List (List Int)} {S : Int → Prop} (h : Closed F S) : ¬ Confl F := fun ⟨c, hc, hm⟩ => by
  rcases h.clause c hc with ⟨m, hm', hs⟩ | ⟨a, ha, b, hb, hne, sa, sb⟩
  · exact h.cons m hs (h.up (hm m hm'))
  · exact sa (h.up (hm a ha))
def assignC (L : List Int) (c : List Int) : List Int := c.filter fun n => !decide (-n ∈ L)
def assign (F : List (List Int)) (L : List Int) : List (List Int) := (F.filter fun c => !c.any fun n => decide (n ∈ L)).map (assignC L)
def unitsOf (L : List Int) : List (List Int) := L.map fun n => [n]
def Sat (S : Int → Prop) (c : List Int) : Prop := ∃ n ∈ c, S n
theorem UP.true {F : List (List Int)} {S : Int → Prop} (hS : ∀ n, S n → ¬ S (-n)) (hF : ∀ c ∈ F, Sat S c) {n : Int} (u : UP F n) : S n := by
  induction u with
  | mk c n hc hn _ ih =>
    obtain ⟨m, hm, h⟩ := hF c hc
    by_cases e : m = n
    · exact e ▸ h
    · exact absurd (ih m hm e) (hS m h)
theorem Confl.none {F : List (List Int)} {S : Int → Prop} (hS : ∀ n, S n → ¬ S (-n)) (hF : ∀ c ∈ F, Sat S c) : ¬ Confl F := fun ⟨c, hc, hm⟩ => by
  obtain ⟨m, hm', h⟩ := hF c hc
  exact hS m h ((hm m hm').true hS hF)
end Go.Cl
/- Clauses: the rounds that look for clauses of one literal; rows by their variables. -/
namespace Go.Cl
open Go Go.Am
set_option maxRecDepth 100000
def av (n : Int) : Int := if n < 0 then -n else n
abbrev Srt (l : List Int) : Prop := l.Pairwise fun a b => av a < av b
theorem srt_ext : ∀ {l m : List Int}, Srt l → Srt m → (∀ n, n ∈ l ↔ n ∈ m) → l = m
  | [], [], _, _, _ => rfl
  | [], b :: m, _, _, h => absurd ((h b).2 (by simp)) (by simp)
  | a :: l, [], _, _, h => absurd ((h a).1 (by simp)) (by simp)
  | a :: l, b :: m, hl, hm, h => by
    rw [Srt, List.pairwise_cons] at hl hm
    have e : a = b := by
      have h1 := (h a).1 (by simp)
      have h2 := (h b).2 (by simp)
      simp only [List.mem_cons] at h1 h2
      rcases h1 with h1 | h1
      · exact h1
      · rcases h2 with h2 | h2
        · exact h2.symm
        · have := hl.1 b h2; have := hm.1 a h1; omega
    subst e
    congr 1
    refine srt_ext hl.2 hm.2 fun n => ?_
    have hn := h n
    simp only [List.mem_cons] at hn
    refine ⟨fun x => (hn.1 (.inr x)).resolve_left fun e => ?_, fun x => (hn.2 (.inr x)).resolve_left fun e => ?_⟩
    · subst e; have := hl.1 _ x; omega
    · subst e; have := hm.1 _ x; omega
def ins (n : Int) : List Int → List Int
  | [] => [n]
  | a :: l => if av n < av a then n :: a :: l else a :: ins n l
def sortV : List Int → List Int
  | [] => []
  | n :: l => ins n (sortV l)
theorem mem_ins {n m : Int} : ∀ {l : List Int}, m ∈ ins n l ↔ m = n ∨ m ∈ l
  | [] => by simp [ins]
  | a :: l => by
    unfold ins
    split
    · simp
    · simp only [List.mem_cons, mem_ins (l := l)]
      exact ⟨fun h => h.elim (fun x => .inr (.inl x)) fun x => x.elim .inl fun x => .inr (.inr x), fun h => h.elim (fun x => .inr (.inl x)) fun x => x.elim .inl fun x => .inr (.inr x)⟩
theorem mem_sortV {m : Int} : ∀ {l : List Int}, m ∈ sortV l ↔ m ∈ l
  | [] => by simp [sortV]
  | a :: l => by simp [sortV, mem_ins, mem_sortV (l := l)]
theorem srt_ins {n : Int} : ∀ {l : List Int}, Srt l → (∀ m ∈ l, av m ≠ av n) → Srt (ins n l)
  | [], _, _ => by simp [ins, Srt]
  | a :: l, h, hn => by
    have h' := h
    rw [Srt, List.pairwise_cons] at h
    unfold ins
    split
    · rename_i hlt
      rw [Srt, List.pairwise_cons]
      refine ⟨fun b hb => ?_, h'⟩
      simp only [List.mem_cons] at hb
      rcases hb with rfl | hb
      · exact hlt
      · have := h.1 b hb; omega
    · rename_i hlt
      have := hn a (by simp)
      rw [Srt, List.pairwise_cons]
      refine ⟨fun b hb => ?_, srt_ins h.2 fun m hm => hn m (by simp [hm])⟩
      rcases mem_ins.1 hb with rfl | hb
      · omega
      · exact h.1 b hb
def Once (l : List Int) : Prop := l.Pairwise fun a b => av a ≠ av b
theorem srt_sortV : ∀ {l : List Int}, Once l → Srt (sortV l)
  | [], _ => .nil
  | a :: l, h => by
    rw [Once, List.pairwise_cons] at h
    exact srt_ins (srt_sortV h.2) fun m hm => (h.1 m (mem_sortV.1 hm)).symm
theorem sortV_is {l m : List Int} (h : Once l) (hm : Srt m) (he : ∀ n, n ∈ m ↔ n ∈ l) : m = sortV l := srt_ext hm (srt_sortV h) fun n => by rw [he, mem_sortV]
def stepU (S c : List Int) : Option (List Int) :=
  if c.any fun n => decide (n ∈ S) then some S
  else match c.filter fun n => !decide (-n ∈ S) with
    | [] => none
    | a :: l => if l.all fun n => decide (n = a) then some (S ++ [a]) else some S
def passU (S : List Int) : List (List Int) → Option (List Int)
  | [] => some S
  | c :: F => (stepU S c).bind fun S => passU S F
def loopU (F : List (List Int)) : Nat → List Int → Option (List Int)
  | 0, _ => none
  | k + 1, S => match passU S F with
    | none => none
    | some S' => if S'.length = S.length then some S' else loopU F k S'
def foundU (F : List (List Int)) : Option (List Int) := loopU F (F.flatten.length + 1) []
def units (F : List (List Int)) : Option (List Int) := (foundU F).map sortV
def Nz (F : List (List Int)) : Prop := ∀ c ∈ F, ∀ n ∈ c, n ≠ 0
structure Inv (F : List (List Int)) (S : List Int) : Prop where
  once : Once S
  up : ∀ n ∈ S, UP F n
  nz : ∀ n ∈ S, n ≠ 0
theorem Once.cons {S : List Int} (h : Once S) {n : Int} (hn : n ∈ S) (h0 : n ≠ 0) : -n ∉ S := fun h' => by
  have hne : n ≠ -n := by omega
  obtain ⟨i, hi, e1⟩ := List.mem_iff_getElem.1 hn
  obtain ⟨j, hj, e2⟩ := List.mem_iff_getElem.1 h'
  have key := List.pairwise_iff_getElem.1 h
  have e : av n = av (-n) := by unfold av; split <;> split <;> omega
  rcases Nat.lt_trichotomy i j with hij | hij | hij
  · exact key i j hi hj hij (by rw [e1, e2]; exact e)
  · subst hij; exact hne (e1.symm.trans e2)
  · exact key j i hj hi hij (by rw [e1, e2]; exact e.symm)
theorem stepU_inv {F : List (List Int)} (hz : Nz F) {S : List Int} (h : Inv F S) {c : List Int} (hc : c ∈ F) :
    (stepU S c = none → Confl F) ∧ ∀ S', stepU S c = some S' → Inv F S' ∧ (S' = S ∨ ∃ n ∈ c, n ∉ S ∧ S' = S ++ [n]) := by
  unfold stepU
  split
  · exact ⟨fun h => (by cases h), fun S' e => by cases e; exact ⟨h, .inl rfl⟩⟩
  rename_i hn
  simp only [Bool.not_eq_true, List.any_eq_false, decide_eq_true_eq] at hn
  have hup : ∀ m ∈ c, m ∉ c.filter (fun n => !decide (-n ∈ S)) → UP F (-m) := fun m hm hx => by
    have : -m ∈ S := by
      refine Classical.byContradiction fun hh => hx (List.mem_filter.2 ⟨hm, by simpa using hh⟩)
    exact h.up _ this
  generalize hl : c.filter (fun n => !decide (-n ∈ S)) = left at hup
  cases left with
  | nil => exact ⟨fun _ => ⟨c, hc, fun m hm => hup m hm (by simp)⟩, fun S' e => by cases e⟩
  | cons a l =>
    simp only
    have ha : a ∈ c ∧ -a ∉ S := by
      have : a ∈ c.filter (fun n => !decide (-n ∈ S)) := by rw [hl]; simp
      have := List.mem_filter.1 this
      exact ⟨this.1, by simpa using this.2⟩
    split
    · rename_i hall
      refine ⟨fun h => (by cases h), fun S' e => ?_⟩
      cases e
      simp only [List.all_eq_true, decide_eq_true_eq] at hall
      have hu : UP F a := .mk c a hc ha.1 fun m hm hne => hup m hm fun hx => by
        simp only [List.mem_cons] at hx
        exact hne (hx.elim id (hall m))
      refine ⟨⟨?_, fun n hn => ?_, fun n hn => ?_⟩, .inr ⟨a, ha.1, hn a ha.1, rfl⟩⟩
      · rw [Once, List.pairwise_append]
        refine ⟨h.once, by simp, fun x hx y hy => ?_⟩
        simp at hy
        subst hy
        intro e
        have : x = y ∨ x = -y := by
          revert e; unfold av; split <;> split <;> omega
        rcases this with rfl | rfl
        · exact hn _ ha.1 hx
        · exact ha.2 hx
      · simp only [List.mem_append, List.mem_singleton] at hn
        rcases hn with hn | rfl
        · exact h.up n hn
        · exact hu
      · simp only [List.mem_append, List.mem_singleton] at hn
        rcases hn with hn | rfl
        · exact h.nz n hn
        · exact hz c hc _ ha.1
    · exact ⟨fun h => (by cases h), fun S' e => by cases e; exact ⟨h, .inl rfl⟩⟩
theorem passU_inv {F : List (List Int)} (hz : Nz F) : ∀ {G : List (List Int)}, (∀ c ∈ G, c ∈ F) → ∀ {S : List Int}, Inv F S → (passU S G = none → Confl F) ∧ ∀ S', passU S G = some S' → Inv F S' ∧ S.length ≤ S'.length ∧ (S'.length = S.length → S' = S ∧ ∀ c ∈ G, stepU S c = some S)
  | [], _, S, h => ⟨fun h => (by cases h), fun S' e => by cases e; exact ⟨h, Nat.le_refl _, fun _ => ⟨rfl, by simp⟩⟩⟩
  | c :: G, hG, S, h => by
    obtain ⟨h1, h2⟩ := stepU_inv hz h (hG c (by simp))
    simp only [passU]
    cases hs : stepU S c with
    | none => exact ⟨fun _ => h1 hs, fun S' e => by cases e⟩
    | some S1 =>
      obtain ⟨i1, g⟩ := h2 S1 hs
      obtain ⟨k1, k2⟩ := passU_inv hz (G := G) (fun c hc => hG c (by simp [hc])) i1
      simp only [Option.bind_some]
      refine ⟨k1, fun S' e => ?_⟩
      obtain ⟨i2, l2, e2⟩ := k2 S' e
      have l1 : S.length ≤ S1.length := by
        rcases g with rfl | ⟨n, _, _, rfl⟩
        · exact Nat.le_refl _
        · simp
      refine ⟨i2, by omega, fun e => ?_⟩
      have es : S1 = S := by
        rcases g with rfl | ⟨n, _, _, rfl⟩
        · rfl
        · simp at l2; omega
      subst es
      obtain ⟨q1, q2⟩ := e2 e
      refine ⟨q1, fun d hd => ?_⟩
      simp only [List.mem_cons] at hd
      rcases hd with rfl | hd
      · exact hs
      · exact q2 d hd
theorem nodup_sub {l m : List Int} (h : l.Nodup) (hs : ∀ n ∈ l, n ∈ m) : l.length ≤ m.length := by
  induction l generalizing m with
  | nil => simp
  | cons a l ih =>
    rw [List.nodup_cons] at h
    have ha := hs a (by simp)
    have := ih h.2 (m := m.erase a) fun n hn => by
      have hne : n ≠ a := fun e => h.1 (e ▸ hn)
      exact (List.mem_erase_of_ne hne).2 (hs n (by simp [hn]))
    have := List.length_erase_of_mem ha
    have := List.length_pos_of_mem ha
    simp
    omega
theorem Once.nodup {l : List Int} (h : Once l) : l.Nodup := List.Pairwise.imp (fun {a b} (h : av a ≠ av b) (e : a = b) => h (congrArg av e)) h
theorem Inv.len {F : List (List Int)} {S : List Int} (h : Inv F S) : S.length ≤ F.flatten.length := nodup_sub h.once.nodup fun n hn => by
  obtain ⟨c, hc, hnc⟩ := (h.up n hn).in
  exact List.mem_flatten.2 ⟨c, hc, hnc⟩
theorem step_closed {S c : List Int} (h : stepU S c = some S) : (∃ n ∈ c, n ∈ S) ∨ ∃ n ∈ c, ∃ m ∈ c, n ≠ m ∧ -n ∉ S ∧ -m ∉ S := by
  unfold stepU at h
  split at h
  · rename_i hh
    simp only [List.any_eq_true, decide_eq_true_eq] at hh
    exact .inl hh
  generalize hl : c.filter (fun n => !decide (-n ∈ S)) = left at h
  cases left with
  | nil => cases h
  | cons a l =>
    simp only at h
    split at h
    · simp at h
    · rename_i hall
      simp only [List.all_eq_true, decide_eq_true_eq] at hall
      obtain ⟨b, hb, hne⟩ : ∃ b ∈ l, b ≠ a := Classical.byContradiction fun hh => hall fun x hx => Classical.byContradiction fun e => hh ⟨x, hx, e⟩
      have g : ∀ x ∈ a :: l, x ∈ c ∧ -x ∉ S := fun x hx => by
        rw [← hl] at hx
        have := List.mem_filter.1 hx
        exact ⟨this.1, by simpa using this.2⟩
      have ga := g a (by simp)
      have gb := g b (by simp [hb])
      exact .inr ⟨b, gb.1, a, ga.1, hne, gb.2, ga.2⟩
theorem loopU_spec {F : List (List Int)} (hz : Nz F) : ∀ (k : Nat) {S : List Int}, Inv F S → F.flatten.length + 1 ≤ k + S.length → (loopU F k S = none → Confl F) ∧ ∀ S', loopU F k S = some S' → Inv F S' ∧ Closed F (· ∈ S')
  | 0, S, h, hk => by have := h.len; omega
  | k + 1, S, h, hk => by
    obtain ⟨h1, h2⟩ := passU_inv hz (G := F) (fun c hc => hc) h
    simp only [loopU]
    cases hp : passU S F with
    | none => exact ⟨fun _ => h1 hp, fun S' e => by cases e⟩
    | some S1 =>
      obtain ⟨i1, l1, e1⟩ := h2 S1 hp
      simp only
      split
      · rename_i he
        refine ⟨fun h => (by cases h), fun S' e => ?_⟩
        cases e
        obtain ⟨rfl, hst⟩ := e1 he
        exact ⟨i1, ⟨fun n hn => i1.once.cons hn (i1.nz n hn), fun c hc => step_closed (hst c hc)⟩⟩
      · exact loopU_spec hz k i1 (by omega)
theorem inv_nil (F : List (List Int)) : Inv F [] := ⟨.nil, by simp, by simp⟩
theorem foundU_none {F : List (List Int)} (hz : Nz F) : foundU F = none ↔ Confl F := by
  obtain ⟨h1, h2⟩ := loopU_spec hz (F.flatten.length + 1) (inv_nil F) (by simp)
  refine ⟨h1, fun hC => ?_⟩
  cases h : foundU F with
  | none => rfl
  | some S => exact absurd hC (h2 S h).2.no
theorem foundU_some {F : List (List Int)} (hz : Nz F) {S : List Int} (h : foundU F = some S) : Inv F S ∧ ∀ n, n ∈ S ↔ UP F n := by
  obtain ⟨h1, h2⟩ := loopU_spec hz (F.flatten.length + 1) (inv_nil F) (by simp)
  obtain ⟨i, c⟩ := h2 S h
  exact ⟨i, fun n => ⟨i.up n, fun u => c.up u⟩⟩
theorem units_none {F : List (List Int)} (hz : Nz F) : units F = none ↔ Confl F := by
  unfold units; rw [Option.map_eq_none_iff, foundU_none hz]
theorem units_some {F : List (List Int)} (hz : Nz F) {l : List Int} (h : units F = some l) : Srt l ∧ ∀ n, n ∈ l ↔ UP F n := by
  obtain ⟨S, hS, rfl⟩ := Option.map_eq_some_iff.1 h
  obtain ⟨i, hm⟩ := foundU_some hz hS
  exact ⟨srt_sortV i.once, fun n => by rw [mem_sortV, hm]⟩
end Go.Cl
/- Clauses: clean ones; what follows from a formula; rows that are a proof. -/
namespace Go.Cl
open Go Go.Am
set_option maxRecDepth 100000
def mn : Int := -9223372036854775808
theorem neg_ne {n : Int} (h : n ≠ mn) : neg n = -n := if_neg h
def bad (c : List Int) : Bool := c.any fun n => decide (n = 0) || decide (neg n ∈ c)
def dd : List Int → List Int
  | [] => []
  | a :: l => if a ∈ l then dd l else a :: dd l
def canon (c : List Int) : List Int := sortV (dd c)
def cleanS (c : List Int) : List Int × Bool := if bad c then ([], false) else (canon c, true)
theorem mem_dd {n : Int} : ∀ {c : List Int}, n ∈ dd c ↔ n ∈ c
  | [] => by simp [dd]
  | a :: l => by
    unfold dd
    split
    · rename_i h
      rw [mem_dd (c := l)]
      exact ⟨fun x => by simp [x], fun x => by simp at x; rcases x with rfl | x <;> assumption⟩
    · simp [mem_dd (c := l)]
theorem bad_iff {c : List Int} : bad c = true ↔ ∃ n ∈ c, n = 0 ∨ neg n ∈ c := by simp [bad]
theorem bad_not {c : List Int} (h : bad c = false) : ∀ n ∈ c, n ≠ 0 ∧ n ≠ mn ∧ -n ∉ c := fun n hn => by
  have : ¬ ∃ n ∈ c, n = 0 ∨ neg n ∈ c := fun x => by rw [bad_iff.2 x] at h; cases h
  refine ⟨fun e => this ⟨n, hn, .inl e⟩, fun e => this ⟨n, hn, .inr ?_⟩, fun hm => this ⟨n, hn, .inr ?_⟩⟩
  · have : neg n = n := by rw [e]; decide
    rw [this]; exact hn
  · by_cases e : n = mn
    · have : neg n = n := by rw [e]; decide
      rw [this]; exact hn
    · rw [neg_ne e]; exact hm
theorem once_of {l : List Int} (hd : l.Nodup) (h : ∀ n ∈ l, -n ∉ l) : Once l := by
  refine List.Pairwise.imp_of_mem (R := fun a b : Int => a ≠ b) (fun {a b} ha hb hne e => ?_) hd
  have : a = b ∨ b = -a := by revert e; unfold av; split <;> split <;> omega
  rcases this with e | e
  · exact hne e
  · exact h a ha (e ▸ hb)
theorem nodup_dd : ∀ c : List Int, (dd c).Nodup
  | [] => .nil
  | a :: l => by
    unfold dd
    split
    · exact nodup_dd l
    · rename_i h
      exact List.nodup_cons.2 ⟨fun x => h (mem_dd.1 x), nodup_dd l⟩
theorem once_dd {c : List Int} (h : bad c = false) : Once (dd c) := once_of (nodup_dd c) fun n hn hm => (bad_not h n (mem_dd.1 hn)).2.2 (mem_dd.1 hm)
theorem mem_canon {n : Int} {c : List Int} : n ∈ canon c ↔ n ∈ c := by rw [canon, mem_sortV, mem_dd]
theorem srt_canon {c : List Int} (h : bad c = false) : Srt (canon c) := srt_sortV (once_dd h)
theorem canon_is {c l : List Int} (h : bad c = false) (hl : Srt l) (hm : ∀ n, n ∈ l ↔ n ∈ c) : l = canon c := srt_ext hl (srt_canon h) fun n => by rw [hm, mem_canon]
def mabs (n : Int) : Int := if n < neg n then neg n else n
def ks (a b : Int) : Prop := mabs a < mabs b ∨ mabs a = mabs b ∧ a ≤ b
def cmpct : List Int → List Int
  | [] => []
  | [a] => [a]
  | a :: b :: l => if a = b then cmpct (b :: l) else a :: cmpct (b :: l)
def chk : Option Int → List Int → Bool
  | _, [] => false
  | p, n :: l => (decide (n = 0) || decide (n = mn) || decide (p = some (neg n))) || chk (some n) l
theorem mem_cmpct {n : Int} : ∀ {s : List Int}, n ∈ cmpct s ↔ n ∈ s
  | [] => by simp [cmpct]
  | [a] => by simp [cmpct]
  | a :: b :: l => by
    unfold cmpct
    split
    · rename_i e; subst e
      rw [mem_cmpct (s := a :: l)]; simp
    · rw [List.mem_cons, mem_cmpct (s := b :: l), List.mem_cons (a := n) (b := a)]
theorem cmpct_head (a : Int) (l : List Int) : ∃ m, cmpct (a :: l) = a :: m := by
  induction l generalizing a with
  | nil => exact ⟨[], rfl⟩
  | cons b l ih =>
    unfold cmpct
    split
    · rename_i e; subst e; exact ih a
    · exact ⟨_, rfl⟩
theorem chk_true : ∀ {p : Option Int} {l : List Int}, chk p l = true → ∃ n ∈ l, n = 0 ∨ n = mn ∨ p = some (neg n) ∨ neg n ∈ l
  | _, [], h => by cases h
  | p, n :: l, h => by
    simp only [chk, Bool.or_eq_true, decide_eq_true_eq] at h
    rcases h with ((h | h) | h) | h
    · exact ⟨n, by simp, .inl h⟩
    · exact ⟨n, by simp, .inr (.inl h)⟩
    · exact ⟨n, by simp, .inr (.inr (.inl h))⟩
    · obtain ⟨m, hm, h⟩ := chk_true h
      refine ⟨m, by simp [hm], ?_⟩
      rcases h with h | h | h | h
      · exact .inl h
      · exact .inr (.inl h)
      · injection h with h
        exact .inr (.inr (.inr (by rw [← h]; simp)))
      · exact .inr (.inr (.inr (by simp [h])))
theorem mabs_av {n : Int} (h : n ≠ mn) : mabs n = av n := by
  unfold mabs av; rw [neg_ne h]; split <;> split <;> omega
theorem chk_false : ∀ {p : Option Int} {s : List Int}, s.Pairwise ks → chk p (cmpct s) = false → Srt (cmpct s) ∧ ∀ n ∈ cmpct s, n ≠ 0 ∧ n ≠ mn
  | p, [], _, _ => ⟨.nil, by simp [cmpct]⟩
  | p, [a], _, h => by
    simp only [cmpct, chk, Bool.or_false, Bool.or_eq_false_iff, decide_eq_false_iff_not] at h
    exact ⟨by simp [cmpct, Srt], fun n hn => by simp [cmpct] at hn; subst hn; exact h.1⟩
  | p, a :: b :: l, hs, h => by
    rw [List.pairwise_cons] at hs
    unfold cmpct at h ⊢
    split at h
    · rename_i e; subst e
      rw [if_pos rfl]
      exact chk_false hs.2 h
    · rename_i e
      rw [if_neg e]
      simp only [chk, Bool.or_eq_false_iff, decide_eq_false_iff_not] at h
      obtain ⟨g1, g2⟩ := chk_false hs.2 h.2
      obtain ⟨m, hm⟩ := cmpct_head b l
      have hb := g2 b (by rw [hm]; simp)
      refine ⟨?_, fun n hn => ?_⟩
      · rw [hm] at h g1 ⊢
        have hab : av a < av b := by
          have h1 := hs.1 b (by simp)
          simp only [chk, Bool.or_eq_false_iff, decide_eq_false_iff_not, Option.some.injEq] at h
          have h2 := h.2.1.2
          rw [neg_ne hb.2] at h2
          unfold ks at h1
          rw [mabs_av h.1.1.2, mabs_av hb.2] at h1
          rcases h1 with h1 | ⟨h1, h3⟩
          · exact h1
          · exfalso; revert h1; unfold av; split <;> split <;> omega
        have g1' := g1
        rw [Srt, List.pairwise_cons] at g1'
        rw [Srt, List.pairwise_cons]
        refine ⟨fun c hc => ?_, g1⟩
        simp only [List.mem_cons] at hc
        rcases hc with rfl | hc
        · exact hab
        · have := g1'.1 c hc; omega
      · simp only [List.mem_cons] at hn
        rcases hn with rfl | hn
        · exact h.1.1
        · exact g2 n hn
theorem cleanP {c s : List Int} (hs : s.Pairwise ks) (hm : ∀ n, n ∈ s ↔ n ∈ c) : (if chk none (cmpct s) then ([], false) else (cmpct s, true)) = cleanS c := by
  cases h : chk none (cmpct s) with
  | true =>
    obtain ⟨n, hn, h⟩ := chk_true h
    rw [mem_cmpct, hm] at hn
    have : bad c = true := bad_iff.2 ⟨n, hn, by
      rcases h with h | h | h | h
      · exact .inl h
      · have : neg n = n := by rw [h]; decide
        exact .inr (by rw [this]; exact hn)
      · cases h
      · rw [mem_cmpct, hm] at h; exact .inr h⟩
    simp [cleanS, this]
  | false =>
    obtain ⟨g1, g2⟩ := chk_false hs h
    have hb : bad c = false := by
      cases hb : bad c with
      | false => rfl
      | true =>
        exfalso
        obtain ⟨n, hn, h⟩ := bad_iff.1 hb
        have hn' : n ∈ cmpct s := by rw [mem_cmpct, hm]; exact hn
        obtain ⟨n0, nm⟩ := g2 n hn'
        rcases h with h | h
        · exact n0 h
        · rw [neg_ne nm] at h
          have h' : -n ∈ cmpct s := by rw [mem_cmpct, hm]; exact h
          have ho : Once (cmpct s) := List.Pairwise.imp (fun {a b} (h : av a < av b) => by omega) g1
          exact ho.cons hn' n0 h'
    rw [cleanS, hb, canon_is hb g1 fun n => by rw [mem_cmpct, hm]]
    try rfl
def litOk (v n : Int) : Bool := decide (n ≠ 0 ∧ -v ≤ n ∧ n ≤ v)
def right (v : Int) (F : List (List Int)) : Bool := decide (0 ≤ v ∧ v ≤ 16777216 ∧ (F.length : Int) ≤ 1048576) && F.all fun c => c.all (litOk v)
theorem right_iff {v : Int} {F : List (List Int)} : right v F = true ↔ (0 ≤ v ∧ v ≤ 16777216 ∧ (F.length : Int) ≤ 1048576) ∧ ∀ c ∈ F, ∀ n ∈ c, n ≠ 0 ∧ -v ≤ n ∧ n ≤ v := by
  simp [right, litOk]
theorem right_nz {v : Int} {F : List (List Int)} (h : right v F = true) : Nz F := fun c hc n hn => ((right_iff.1 h).2 c hc n hn).1
def follows (v : Int) (F : List (List Int)) (c : List Int) : Bool :=
  right v F && (c.all (litOk v) && (bad c || (units (F ++ unitsOf (c.map fun n => -n))).isNone))
end Go.Cl
/- Clauses and models; proofs. -/
namespace Go.Cl
open Go Go.Am
set_option maxRecDepth 100000
def litT (m : List Bool) (n : Int) : Bool := decide (n > 0) && m.getD (n - 1).toNat false || decide (n < 0) && !m.getD (-n - 1).toNat false
def clauseT (m : List Bool) (c : List Int) : Bool := c.any (litT m)
def holdsS (v : Int) (F : List (List Int)) (m : List Bool) : Bool := right v F && (decide ((m.length : Int) = v) && F.all (clauseT m))
theorem litT_cons {m : List Bool} {n : Int} (h : litT m n = true) : litT m (-n) = false := by
  unfold litT at h ⊢
  rcases Int.lt_trichotomy n 0 with h0 | h0 | h0
  · have h1 : ¬ n > 0 := by omega
    have h2 : -n > 0 := by omega
    have h3 : ¬ -n < 0 := by omega
    simpa [h0, h1, h2, h3] using h
  · subst h0; simp at h
  · have h1 : ¬ n < 0 := by omega
    have h2 : ¬ -n > 0 := by omega
    have h3 : -n < 0 := by omega
    simpa [h0, h1, h2, h3] using h
theorem clauseT_iff {m : List Bool} {c : List Int} : clauseT m c = true ↔ Sat (fun n => litT m n = true) c := by simp [clauseT, Sat]
theorem cons_T (m : List Bool) (n : Int) : litT m n = true → ¬ litT m (-n) = true := fun h h' => by rw [litT_cons h] at h'; cases h'
end Go.Cl
/- Contracts: right formulas. -/
namespace Go.Proofs.YtingdebioipemaaDoor
open Go Go.Am Go.Cl
set_option maxRecDepth 100000
variable {P : Program} {G : Nat → Option V}
def ints (c : List Int) : List V := c.map (V.int .i64)
def row (c : List Int) : V := .lst 1 (ints c) false
def rows (F : List (List Int)) : V := .lst 1 (F.map row) false
def fml (v : Int) (F : List (List Int)) : V := .agg [.int .i64 v, rows F]
theorem ints_length (c : List Int) : (ints c).length = c.length := by simp [ints]
theorem ints_get {c : List Int} {i : Nat} {n : Int} (h : c[i]? = some n) : (ints c)[i]? = some (.int .i64 n) := by simp [ints, h]
theorem ints_getD {c : List Int} {i : Nat} {n : Int} (h : c[i]? = some n) : (ints c).getD i V.any = .int .i64 n := by simp [ints, List.getD_eq_getElem?_getD, h]
theorem rows_getD {F : List (List Int)} {i : Nat} {c : List Int} (h : F[i]? = some c) : (F.map row).getD i V.any = .lst 1 (ints c) false := by simp [List.getD_eq_getElem?_getD, h, row]
theorem ints_nameless : ∀ c : List Int, namelessL (ints c) = true
  | [] => rfl
  | n :: c => by have := ints_nameless c; simpa [ints, namelessL, nameless] using this
theorem wneg {v : Int} (h : 0 ≤ v ∧ v ≤ 16777216) : IntKind.i64.wrap (0 - v) = -v := by
  rw [wrap_id] <;> (try omega)
  all_goals (first | (simp [IntKind.min, IntKind.signed, IntKind.bits]; omega) | (simp [IntKind.max, IntKind.signed, IntKind.bits]; omega))
-- simp [IntKind.min, IntKind.signed, IntKind.bits]; omega) (by simp [IntKind.max, IntKind.signed, IntKind.bits]; omega)
theorem wnext {i n : Nat} (h : i < n) (hn : n ≤ 9223372036854775807) : IntKind.i64.wrap ((i : Int) + 1) = ((i + 1 : Nat) : Int) := by
  rw [wrap_id]
  · omega
  · simp [IntKind.min, IntKind.signed, IntKind.bits]; omega
  · simp [IntKind.max, IntKind.signed, IntKind.bits]; omega
def fmH (t : Nat) (v : Int) (F : List (List Int)) : List (Option Ob) := [some (.arr t 24 [.int .i64 v, .lst 1 (F.map row) false])]
theorem c_Right (hT : TabOk P tab) (v : Int) (F : List (List Int)) (hF : F.length ≤ 9223372036854775807) (hc : ∀ c ∈ F, c.length ≤ 9223372036854775807) : Pure P G n_clause_Right [fml v F] fun u => u = .bool (right v F) := by
  intro t
  refine C_keep 0 (Nat.zero_le _) (C_tab hT t_clause_Right (by simp [clause_Right]) (W_run 12 ?_))
  by_cases h1 : v < 0
  · have hr : right v F = false := by simp [right]; omega
    simp -implicitDefEqProofs (disch := omega) only [go_sem, ↓reduceIte, reduceCtorEq, Nat.reduceAdd, Nat.reduceEqDiff, Nat.reduceLeDiff, Nat.zero_add, Nat.add_zero, decide_true, clause_Right, zq6_0, zq6_1, zq6_2, zq6_3, zq6_4, zq6_5, zq6_6, zq6_7, zq6_8, zq6_9, zq6_10, zq6_11, zq6_12, zq6_13, fml, rows, true_implies, and_true, h1]
    iterate 9 (try (refine run_sem 2 ?_; simp -implicitDefEqProofs (disch := omega) only [go_sem, ↓reduceIte, reduceCtorEq, Nat.reduceEqDiff]))
    try refine run_sem 9 ?_
    try simp -implicitDefEqProofs (disch := omega) only [go_sem, ↓reduceIte, reduceCtorEq, Nat.reduceEqDiff, Nat.zero_add, Nat.zero_le, true_and]
    rw [hr]
  by_cases h2 : v > 16777216
  · have hr : right v F = false := by simp [right]; omega
    simp -implicitDefEqProofs (disch := omega) only [go_sem, ↓reduceIte, reduceCtorEq, Nat.reduceAdd, Nat.reduceEqDiff, Nat.reduceLeDiff, Nat.zero_add, Nat.add_zero, decide_false, clause_Right, zq6_0, zq6_1, zq6_2, zq6_3, zq6_4, zq6_5, zq6_6, zq6_7, zq6_8, zq6_9, zq6_10, zq6_11, zq6_12, zq6_13, fml, rows, true_implies, and_true, h1]
    iterate 9 (try (refine run_sem 2 ?_; simp -implicitDefEqProofs (disch := omega) only [go_sem, ↓reduceIte, reduceCtorEq, Nat.reduceAdd, Nat.reduceEqDiff, Nat.reduceLeDiff, Nat.zero_add, Nat.add_zero, decide_true, gt_iff_lt, true_implies, and_true, h2]))
    try refine run_sem 9 ?_
    try simp -implicitDefEqProofs (disch := omega) only [go_sem, ↓reduceIte, reduceCtorEq, Nat.reduceEqDiff, Nat.zero_add, Nat.zero_le, true_and]
    rw [hr]
  by_cases h3 : (F.length : Int) > 1048576
  · have hr : right v F = false := by simp [right]; omega
    simp -implicitDefEqProofs (disch := omega) only [go_sem, ↓reduceIte, reduceCtorEq, Nat.reduceAdd, Nat.reduceEqDiff, Nat.reduceLeDiff, Nat.zero_add, Nat.add_zero, decide_false, clause_Right, zq6_0, zq6_1, zq6_2, zq6_3, zq6_4, zq6_5, zq6_6, zq6_7, zq6_8, zq6_9, zq6_10, zq6_11, zq6_12, zq6_13, fml, rows, true_implies, and_true, h1]
    iterate 9 (try (refine run_sem 2 ?_; simp -implicitDefEqProofs (disch := omega) only [go_sem, ↓reduceIte, reduceCtorEq, Nat.reduceAdd, Nat.reduceEqDiff, Nat.reduceLeDiff, Nat.zero_add, Nat.add_zero, decide_true, decide_false, Nat.le_refl, gt_iff_lt, true_implies, and_true, h2, h3, List.length_map]))
    try refine run_sem 9 ?_
    try simp -implicitDefEqProofs (disch := omega) only [go_sem, ↓reduceIte, reduceCtorEq, Nat.reduceEqDiff, Nat.zero_add, Nat.zero_le, true_and]
    rw [hr]
  simp -implicitDefEqProofs (disch := omega) only [go_sem, ↓reduceIte, reduceCtorEq, Nat.reduceAdd, Nat.reduceEqDiff, Nat.reduceLeDiff, Nat.zero_add, Nat.add_zero, decide_false, clause_Right, zq6_0, zq6_1, zq6_2, zq6_3, zq6_4, zq6_5, zq6_6, zq6_7, zq6_8, zq6_9, zq6_10, zq6_11, zq6_12, zq6_13, fml, rows, true_implies, and_true, h1]
  iterate 9 (try (refine run_sem 2 ?_; simp -implicitDefEqProofs (disch := omega) only [go_sem, ↓reduceIte, reduceCtorEq, Nat.reduceAdd, Nat.reduceEqDiff, Nat.reduceLeDiff, Nat.zero_add, Nat.add_zero, decide_false, Nat.le_refl, gt_iff_lt, true_implies, and_true, h2, h3, List.length_map]))
  refine run_sem 40 ?_
  simp -implicitDefEqProofs (disch := omega) only [go_sem, ↓reduceIte, reduceCtorEq, Nat.reduceEqDiff, List.length_map]
  have hv : 0 ≤ v ∧ v ≤ 16777216 := by omega
  have hneg := wneg hv
  refine sem_invE (fun m fr σ => ∃ i, i ≤ F.length ∧ m = F.length - i ∧ (∀ c ∈ F.take i, c.all (litOk v) = true) ∧ fget fr 1 = .ptr 0 t 0 ∧ fget fr 22 = .lst 1 (F.map row) false ∧ fget fr 23 = .int .i64 F.length ∧ fget fr 24 = .int .i64 i ∧ σ = ⟨t + 1, fmH t v F⟩)
    (fun e fr σ => (e = .ret ∧ fget fr 2 = .bool false ∧ right v F = false) ∨ (e = .ex 0 ∧ right v F = true))
    (m0 := F.length) ⟨0, by omega, rfl, by simp, ?_⟩ (fun m fr σ hJ => ?_) (fun e fr σ hE => ?_)
  · simp -implicitDefEqProofs (disch := omega) only [go_sem, ↓reduceIte, reduceCtorEq, Nat.reduceEqDiff, true_and, and_true, fmH]
    simp
  · obtain ⟨i, hi, rfl, hok, f1, f22, f23, f24, rfl⟩ := hJ
    refine W_run 1000 ?_
    rcases Nat.lt_or_ge i F.length with hlt | hge
    · obtain ⟨c, hci⟩ : ∃ c, F[i]? = some c := ⟨_, List.getElem?_eq_getElem hlt⟩
      have hD := rows_getD hci
      have hcm := List.mem_of_getElem? hci
      have e2 := wnext hlt hF
      have hcl := hc c hcm
      simp -implicitDefEqProofs (disch := omega) only [go_sem, need_of, ↓reduceIte, Nat.reduceEqDiff, Nat.zero_add, decide_true, Nat.le_refl, true_implies, and_true, fmH, List.length_map, ints_length, f22, f23, f24, hlt, hD]
      refine sem_invE (fun m fr σ => ∃ k, k ≤ c.length ∧ m = c.length - k ∧ (∀ n ∈ c.take k, litOk v n = true) ∧ fget fr 1 = .ptr 0 t 0 ∧ fget fr 22 = .lst 1 (F.map row) false ∧ fget fr 23 = .int .i64 F.length ∧ fget fr 24 = .int .i64 i ∧ fget fr 28 = .lst 1 (ints c) false ∧ fget fr 29 = .int .i64 c.length ∧ fget fr 30 = .int .i64 k ∧ σ = ⟨t + 1, fmH t v F⟩)
        (fun e fr σ => (e = .ret ∧ fget fr 2 = .bool false ∧ right v F = false) ∨ (e = .ex 2 ∧ c.all (litOk v) = true ∧ fget fr 1 = .ptr 0 t 0 ∧ fget fr 22 = .lst 1 (F.map row) false ∧ fget fr 23 = .int .i64 F.length ∧ fget fr 24 = .int .i64 i ∧ σ = ⟨t + 1, fmH t v F⟩))
        (m0 := c.length) ⟨0, by omega, rfl, by simp, ?_⟩ (fun m fr σ hJ => ?_) (fun e fr σ hE => ?_)
      · simp -implicitDefEqProofs (disch := omega) only [go_sem, ↓reduceIte, Nat.reduceEqDiff, true_and, and_true, fmH, f1, f22, f23, f24]
        simp
      · obtain ⟨k, hk, rfl, hok2, f1, f22, f23, f24, f28, f29, f30, rfl⟩ := hJ
        refine W_run 14 ?_
        rcases Nat.lt_or_ge k c.length with hlt2 | hge
        · obtain ⟨n, hnk⟩ : ∃ n, c[k]? = some n := ⟨_, List.getElem?_eq_getElem hlt2⟩
          have hD2 := ints_getD hnk
          have hnm := List.mem_of_getElem? hnk
          have e3 := wnext hlt2 hcl
          cases hl : litOk v n with
          | false =>
            have hr : right v F = false := by
              have : F.all (fun c => c.all (litOk v)) = false := by
                rw [List.all_eq_false]
                exact ⟨c, hcm, by rw [Bool.not_eq_true, List.all_eq_false]; exact ⟨n, hnm, by simp [hl]⟩⟩
              simp [right, this]
            simp only [litOk, decide_eq_false_iff_not] at hl
            by_cases g1 : n = 0
            · simp -implicitDefEqProofs (disch := omega) only [go_sem, need_of, ↓reduceIte, Nat.reduceEqDiff, Nat.zero_add, decide_true, Nat.le_refl, true_implies, and_true, fmH, ints_length, f28, f29, f30, hlt2, hD2, g1]
              iterate 16 (try (refine run_sem 2 ?_; simp -implicitDefEqProofs (disch := omega) only [go_sem, ↓reduceIte, reduceCtorEq, Nat.reduceEqDiff, beq_self_eq_true, true_and, and_true, f1, f22, f23, f24]))
              exact hr
            have g1' : (n == 0) = false := by simpa using g1
            by_cases g2 : n > v
            · simp -implicitDefEqProofs (disch := omega) only [go_sem, need_of, ↓reduceIte, Nat.reduceEqDiff, Nat.zero_add, decide_true, Nat.le_refl, true_implies, and_true, fmH, ints_length, f28, f29, f30, hlt2, hD2]
              iterate 16 (try (refine run_sem 2 ?_; simp -implicitDefEqProofs (disch := omega) only [go_sem, ↓reduceIte, reduceCtorEq, Nat.reduceAdd, Nat.reduceEqDiff, Nat.reduceLeDiff, Nat.zero_add, Nat.add_zero, decide_true, gt_iff_lt, true_implies, true_and, and_true, f1, f22, f23, f24, g1', g2]))
              exact hr
            have g3 : n < -v := by omega
            simp -implicitDefEqProofs (disch := omega) only [go_sem, need_of, ↓reduceIte, Nat.reduceEqDiff, Nat.zero_add, decide_true, Nat.le_refl, true_implies, and_true, fmH, ints_length, f28, f29, f30, hlt2, hD2]
            iterate 16 (try (refine run_sem 2 ?_; simp -implicitDefEqProofs (disch := omega) only [go_sem, ↓reduceIte, reduceCtorEq, Nat.reduceAdd, Nat.reduceEqDiff, Nat.reduceLeDiff, Nat.zero_add, Nat.add_zero, decide_true, decide_false, gt_iff_lt, true_implies, true_and, and_true, hneg, f1, f22, f23, f24, g1', g2, g3]))
            exact hr
          | true =>
            have hl' := hl
            simp only [litOk, decide_eq_true_eq] at hl
            have g1' : (n == 0) = false := by simpa using hl.1
            have g2 : ¬ n > v := by omega
            have g3 : ¬ n < -v := by omega
            simp -implicitDefEqProofs (disch := omega) only [go_sem, need_of, ↓reduceIte, Nat.reduceEqDiff, Nat.zero_add, decide_true, Nat.le_refl, true_implies, and_true, fmH, ints_length, f28, f29, f30, hlt2, hD2]
            iterate 16 (try (refine run_sem 2 ?_; simp -implicitDefEqProofs (disch := omega) only [go_sem, ↓reduceIte, Nat.reduceAdd, Nat.reduceEqDiff, Nat.reduceLeDiff, Nat.zero_add, Nat.add_zero, decide_false, gt_iff_lt, true_implies, and_true, hneg, f1, f30, g1', g2, g3]))
            refine ⟨c.length - (k + 1), _, _, by omega, Shift.refl _ _ _ _, k + 1, by omega, rfl, fun n hn => ?_, ?_⟩
            · rw [List.take_add_one, hnk] at hn
              simp at hn
              rcases hn with hn | rfl
              · exact hok2 n hn
              · exact hl'
            · simp -implicitDefEqProofs (disch := omega) only [go_sem, ↓reduceIte, Nat.reduceEqDiff, and_true, f1, f22, f23, f24, f28, f29, e3]
              try simp
        · have hk : k = c.length := by omega
          subst hk
          simp -implicitDefEqProofs (disch := omega) only [go_sem, ↓reduceIte, reduceCtorEq, Nat.reduceEqDiff, decide_false, true_and, and_true, fmH, f1, f22, f23, f24, f29, f30, Nat.lt_irrefl]
          rw [List.take_length] at hok2
          simpa using hok2
      · rcases hE with ⟨rfl, f2, hr⟩ | ⟨rfl, hcc, f1, f22, f23, f24, rfl⟩
        · refine run_sem 1000 ?_
          simp -implicitDefEqProofs (disch := omega) only [go_sem, and_true, f2, hr]
        · refine run_sem 1000 ?_
          simp -implicitDefEqProofs (disch := omega) only [go_sem, ↓reduceIte, fmH, f24]
          refine ⟨F.length - (i + 1), _, _, by omega, Shift.refl _ _ _ _, i + 1, by omega, rfl, fun d hd => ?_, ?_⟩
          · rw [List.take_add_one, hci] at hd
            simp only [Option.toList_some, List.mem_append, List.mem_singleton] at hd
            rcases hd with hd | rfl
            · exact hok d hd
            · exact hcc
          · simp -implicitDefEqProofs (disch := omega) only [go_sem, ↓reduceIte, Nat.reduceEqDiff, and_true, f1, f22, f23, e2]
            try simp
    · have hi : i = F.length := by omega
      subst hi
      simp -implicitDefEqProofs (disch := omega) only [go_sem, ↓reduceIte, reduceCtorEq, Nat.reduceEqDiff, decide_false, true_and, fmH, f23, f24, Nat.lt_irrefl]
      rw [List.take_length] at hok
      have : F.all (fun c => c.all (litOk v)) = true := List.all_eq_true.2 hok
      simp [right, this]
      omega
  · rcases hE with ⟨rfl, f2, hr⟩ | ⟨rfl, hr⟩
    · refine run_sem 1000 ?_
      simp -implicitDefEqProofs (disch := omega) only [go_sem, Nat.zero_le, and_true, f2, hr]
    · refine run_sem 1000 ?_
      simp -implicitDefEqProofs (disch := omega) only [go_sem, ↓reduceIte, Nat.zero_le, and_true, hr]
end Go.Proofs.YtingdebioipemaaDoor
/- Contracts: rows gone through by functions handed over. -/
namespace Go.Proofs.YtingdebioipemaaDoor
open Go Go.Am Go.Cl
set_option maxRecDepth 100000
variable {P : Program} {G : Nat → Option V}
def Tells (P : Program) (G : Nat → Option V) (base : Nat) (f : V) (o : List (Option Ob)) (p : Int → Bool) (c : List Int) : Prop :=
  ∀ t n, n ∈ c → CV P G base f [.int .i64 n] ⟨t, o⟩ fun v σ => v = .bool (p n) ∧ ∃ t', t ≤ t' ∧ σ = ⟨t', o⟩
def fstIdx (p : Int → Bool) : List Int → Nat → Int
  | [], _ => -1
  | n :: c, i => if p n then i else fstIdx p c (i + 1)
theorem fstIdx_neg {p : Int → Bool} : ∀ {c : List Int} {i : Nat}, (∀ n ∈ c, p n = false) → fstIdx p c i = -1
  | [], _, _ => rfl
  | n :: c, i, h => by rw [fstIdx, h n (by simp), if_neg (by simp), fstIdx_neg fun m hm => h m (by simp [hm])]
theorem fstIdx_at {p : Int → Bool} : ∀ {c : List Int} {i k : Nat} {n : Int}, (∀ m ∈ c.take k, p m = false) → c[k]? = some n → p n = true → fstIdx p c i = ((i + k : Nat) : Int)
  | [], _, _, _, _, h, _ => by simp at h
  | m :: c, i, 0, n, _, h, hp => by simp at h; subst h; simp [fstIdx, hp]
  | m :: c, i, k + 1, n, h, hk, hp => by
    rw [fstIdx, h m (by simp), if_neg (by simp), fstIdx_at (k := k) (fun m hm => h m (by simp [hm])) (by simpa using hk) hp]
    congr 1; omega
theorem fstIdx_any {p : Int → Bool} : ∀ {c : List Int} {i : Nat}, decide (0 ≤ fstIdx p c i) = c.any p
  | [], _ => by simp [fstIdx]
  | n :: c, i => by
    unfold fstIdx
    cases h : p n
    · simp [h, fstIdx_any (c := c)]
    · simp [h]
theorem take_snoc {α : Type} {l : List α} {k : Nat} {x : α} (h : l[k]? = some x) : l.take (k + 1) = l.take k ++ [x] := by rw [List.take_add_one, h]; rfl
theorem c_IndexFunc (hT : TabOk P tab) {base t : Nat} {o : List (Option Ob)} {f : V} {p : Int → Bool} {c : List Int} (hp : Tells P G base f o p c) (hl : c.length ≤ 9223372036854775807) :
    C P G base n_slices_IndexFunc_int_int [.lst 1 (ints c) false, f] ⟨t, o⟩ fun v σ => v = .int .i64 (fstIdx p c 0) ∧ ∃ t', t ≤ t' ∧ σ = ⟨t', o⟩ := by
  refine C_tab hT t_slices_IndexFunc_int_int (by simp [slices_IndexFunc_int_int]) (W_run 1000 ?_)
  simp -implicitDefEqProofs (disch := omega) only [go_sem, ↓reduceIte, reduceCtorEq, Nat.reduceEqDiff, Nat.zero_add, slices_IndexFunc_int_int, zq1g_0, zq1g_1, zq1g_2, zq1g_3, zq1g_4, zq1g_5, zq1g_6, zq1g_7, ints_length]
  refine sem_invE (fun m fr σ => ∃ i t', i ≤ c.length ∧ m = c.length - i ∧ (∀ n ∈ c.take i, p n = false) ∧ t ≤ t' ∧ fget fr 0 = .lst 1 (ints c) false ∧ fget fr 1 = f ∧ fget fr 7 = .int .i64 c.length ∧ fget fr 8 = .int .i64 i ∧ σ = ⟨t', o⟩)
    (fun e fr σ => ∃ t', t ≤ t' ∧ σ = ⟨t', o⟩ ∧ ((e = .ret ∧ fget fr 4 = .int .i64 (fstIdx p c 0)) ∨ (e = .ex 0 ∧ fstIdx p c 0 = -1)))
    (m0 := c.length) ⟨0, t, by omega, rfl, by simp, by omega, ?_⟩ (fun m fr σ hJ => ?_) (fun e fr σ hE => ?_)
  · simp -implicitDefEqProofs (disch := omega) only [go_sem, ↓reduceIte, reduceCtorEq, Nat.reduceEqDiff]
    simp
  · obtain ⟨i, t', hi, rfl, hno, ht, f0, f1, f7, f8, rfl⟩ := hJ
    refine W_run 1000 ?_
    rcases Nat.lt_or_ge i c.length with hlt | hge
    · obtain ⟨n, hni⟩ : ∃ n, c[i]? = some n := ⟨_, List.getElem?_eq_getElem hlt⟩
      have hD := ints_getD hni
      have e2 := wnext hlt hl
      simp -implicitDefEqProofs (disch := omega) only [go_sem, need_of, ↓reduceIte, reduceCtorEq, Nat.reduceEqDiff, Nat.succ_ne_zero, Nat.zero_add, decide_true, Nat.le_refl, ints_length, f0, f1, f7, f8, hlt, hD]
      refine CV.use 1000 (hp t' n (List.mem_of_getElem? hni)) fun v σ hv => ?_
      obtain ⟨rfl, t2, ht2, rfl⟩ := hv
      cases hpn : p n with
      | true =>
        simp -implicitDefEqProofs (disch := omega) only [go_sem, ↓reduceIte, reduceCtorEq, Nat.reduceEqDiff]
        rw [fstIdx_at hno hni hpn]
        exact ⟨t2, by omega, rfl, by simp⟩
      | false =>
        simp -implicitDefEqProofs (disch := omega) only [go_sem, ↓reduceIte, Nat.reduceEqDiff, f8]
        refine ⟨c.length - (i + 1), _, _, by omega, Shift.refl _ _ _ _, i + 1, t2, by omega, rfl, fun m hm => ?_, by omega, ?_⟩
        · rw [take_snoc hni] at hm
          simp at hm
          rcases hm with hm | rfl
          · exact hno m hm
          · exact hpn
        · simp -implicitDefEqProofs (disch := omega) only [go_sem, ↓reduceIte, reduceCtorEq, Nat.reduceEqDiff, Nat.succ_ne_zero, f0, f1, f7, e2]
    · have hi : i = c.length := by omega
      subst hi
      simp -implicitDefEqProofs (disch := omega) only [go_sem, ↓reduceIte, reduceCtorEq, Nat.reduceEqDiff, decide_false, f7, f8, Nat.lt_irrefl]
      rw [List.take_length] at hno
      exact ⟨t', ht, rfl, fstIdx_neg hno⟩
  · obtain ⟨t', ht, rfl, hE⟩ := hE
    rcases hE with ⟨rfl, f4⟩ | ⟨rfl, hh⟩
    · refine run_sem 1000 ?_
      simp -implicitDefEqProofs (disch := omega) only [go_sem, f4]
      exact ⟨t', ht, rfl⟩
    · refine run_sem 1000 ?_
      simp -implicitDefEqProofs (disch := omega) only [go_sem, ↓reduceIte, hh]
      exact ⟨t', ht, rfl⟩
theorem c_ContainsFunc (hT : TabOk P tab) {base t : Nat} {o : List (Option Ob)} {f : V} {p : Int → Bool} {c : List Int} (hp : Tells P G base f o p c) (hl : c.length ≤ 9223372036854775807) :
    C P G base n_slices_ContainsFunc_int_int [.lst 1 (ints c) false, f] ⟨t, o⟩ fun v σ => v = .bool (c.any p) ∧ ∃ t', t ≤ t' ∧ σ = ⟨t', o⟩ := by
  refine C_tab hT t_slices_ContainsFunc_int_int (by simp [slices_ContainsFunc_int_int]) (W_run 1000 ?_)
  simp -implicitDefEqProofs (disch := omega) only [go_sem, ↓reduceIte, reduceCtorEq, Nat.reduceEqDiff, Nat.zero_add, slices_ContainsFunc_int_int, zq1f_0, zq1f_1]
  refine call hT t_slices_IndexFunc_int_int (c_IndexFunc hT hp hl) 1000 fun v σ hv => ?_
  obtain ⟨rfl, t', ht, rfl⟩ := hv
  simp -implicitDefEqProofs (disch := omega) only [go_sem, ↓reduceIte, reduceCtorEq, Nat.reduceEqDiff, ge_iff_le]
  rw [fstIdx_any]
  exact ⟨rfl, t', ht, rfl⟩
theorem c_some (hT : TabOk P tab) {base t : Nat} {o : List (Option Ob)} {f : V} {p : Int → Bool} {c : List Int} (hp : Tells P G base f o p c) (hl : c.length ≤ 9223372036854775807) :
    C P G base n_clause_some_int [.lst 1 (ints c) false, f] ⟨t, o⟩ fun v σ => v = .bool (c.any p) ∧ ∃ t', t ≤ t' ∧ σ = ⟨t', o⟩ := by
  refine C_tab hT t_clause_some_int (by simp [clause_some_int]) (W_run 1000 ?_)
  simp -implicitDefEqProofs (disch := omega) only [go_sem, ↓reduceIte, reduceCtorEq, Nat.reduceEqDiff, Nat.zero_add, clause_some_int, zqk_0, zqk_1]
  refine call hT t_slices_ContainsFunc_int_int (c_ContainsFunc hT hp hl) 1000 fun v σ hv => ?_
  obtain ⟨rfl, t', ht, rfl⟩ := hv
  simp -implicitDefEqProofs (disch := omega) only [go_sem, ↓reduceIte, reduceCtorEq, Nat.reduceEqDiff]
  exact ⟨t', ht, rfl⟩
end Go.Proofs.YtingdebioipemaaDoor
