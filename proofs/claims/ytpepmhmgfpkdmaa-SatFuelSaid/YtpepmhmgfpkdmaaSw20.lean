/- The proof's rows are short. -/
import Derived.Test.YtpepmhmgfpkdmaaSw19
namespace Go.Proofs.Ytpepmhmgfpkdmaa
open Go Go.Am Go.Cl Go.Sat
set_option maxRecDepth 100000

theorem clean_len {N : Nat} {c : List Int} (h : Okc N c) : (cleanS c).1.length ≤ N := by
  rcases hc : cleanS c with ⟨row, b⟩
  cases b with
  | true => exact okc_len (clean_ok (fun l hl => h.1 l hl) hc).1
  | false =>
    unfold cleanS at hc
    split at hc
    · cases hc; exact Nat.zero_le _
    · cases hc

/-- So many rows, so long. -/
def PB (B N : Nat) (s : S) : Prop := s.pf.length + s.lf ≤ B ∧ ∀ p ∈ s.pf, p.length ≤ N

theorem teach_pf {s s' : S} {c : List Int} {level : Nat} (h : s.teach c level = some s') : s'.pf = s.pf ++ [(cleanS c).1] ∧ s'.lf + 1 ≤ s.lf := by
  have hl := teach_lf h
  have hb : ∀ (s : S), (s.back level).pf = s.pf := fun s => by
    unfold S.back
    cases s.ms[level]? <;> rfl
  unfold S.teach at h
  simp only at h
  have b1 := hb { s with pf := s.pf ++ [(cleanS c).1] }
  split at h
  · obtain ⟨_, rfl⟩ := S.set_some h
    exact ⟨b1, by omega⟩
  · obtain ⟨_, rfl⟩ := S.set_some h
    exact ⟨b1, by omega⟩

def PbOk (B N : Nat) : Option (S × Option Bool) → Prop
  | none => True
  | some (s', none) => PB B N s'
  | some (s', some _) => s'.pf.length ≤ B + 1 ∧ ∀ p ∈ s'.pf, p.length ≤ N

theorem round_pb {B N : Nat} {s : S} (h : Inv N s) (hp : PB B N s) : PbOk B N s.round := by
  have hs := spread_inv (s.room + 1) s h (Nat.lt_succ_self _)
  unfold S.round S.spread
  generalize S.spreadN (s.room + 1) s = r at hs
  match r, hs with
  | none, _ => trivial
  | some (s1, some n), hs =>
    obtain ⟨h1, h2, c, h3, h4, y, h5, h6⟩ := hs
    have e1 := h2.pf
    have e2 := h2.le
    simp only
    by_cases g1 : s1.ms.length = 0
    · rw [if_pos g1]
      refine ⟨?_, fun p hp' => ?_⟩
      · show (s1.pf ++ [[]]).length ≤ _
        rw [List.length_append, e1]; have := hp.1; simp; omega
      · rcases List.mem_append.1 hp' with h' | h'
        · exact hp.2 p (e1 ▸ h')
        · simp at h'; subst h'; exact Nat.zero_le _
    · rw [if_neg g1]
      unfold S.burn
      by_cases g2 : s1.lf = 0
      · rw [if_pos g2]; trivial
      · rw [if_neg g2]
        have hb := h1.fuel (s1.lf - 1)
        obtain ⟨d, level, he, e, ht⟩ := learn_inv hb (Nat.pos_of_ne_zero g1) h3 h4 h5 h6
        simp only [e]
        cases hte : S.teach { s1 with lf := s1.lf - 1, he := he } d level with
        | none => trivial
        | some s2 =>
          obtain ⟨k1, k2⟩ := teach_pf hte
          replace k1 : s2.pf = s1.pf ++ [(cleanS d).1] := k1
          replace k2 : s2.lf + 1 ≤ s1.lf - 1 := k2
          refine ⟨?_, fun p hp' => ?_⟩
          · show s2.pf.length + s2.lf ≤ B
            rw [k1, List.length_append, e1]; have := hp.1; simp; omega
          · replace hp' : p ∈ s2.pf := hp'
            rw [k1] at hp'
            rcases List.mem_append.1 hp' with h' | h'
            · exact hp.2 p (e1 ▸ h')
            · simp at h'; subst h'; exact clean_len ht.ok
  | some (s1, none), hs =>
    obtain ⟨h1, h2, h3⟩ := hs
    have e1 := h2.pf
    have e2 := h2.le
    simp only
    by_cases g1 : s1.pick = 0
    · rw [if_pos g1]
      exact ⟨by show s1.pf.length ≤ _; rw [e1]; have := hp.1; omega, fun p hp' => hp.2 p (e1 ▸ hp')⟩
    · rw [if_neg g1]
      cases hse : S.set { s1 with ms := s1.ms ++ [s1.tr.length] } (-(s1.pick : Int)) (-1) with
      | none => trivial
      | some s2 =>
        obtain ⟨a, rfl⟩ := S.set_some hse
        exact ⟨by show s1.pf.length + (s1.lf - 1) ≤ _; rw [e1]; have := hp.1; omega, fun p hp' => hp.2 p (e1 ▸ hp')⟩

theorem runN_pb {B N : Nat} : ∀ (k : Nat) (s : S), Inv N s → PB B N s → ∀ r, S.runN k s = some r → r.1.pf.length ≤ B + 1 ∧ ∀ p ∈ r.1.pf, p.length ≤ N
  | 0, _, _, _, r, e => by cases e
  | k + 1, s, h, hp, r, e => by
    have hr := round_inv h
    have hq := round_pb h hp
    unfold S.runN at e
    generalize s.round = x at hr hq e
    match x, hr, hq, e with
    | none, _, _, e => cases e
    | some (s1, some b), hr, hq, e => cases e; exact hq
    | some (s1, none), hr, hq, e => exact runN_pb k s1 hr.1 hq r e

theorem begin_pb {B N : Nat} : ∀ {F : List (List Int)} {s : S}, PB B N s → PbOk B N (S.begin F s)
  | [], s, h => h
  | c :: F, s, h => by
    have hbad : PbOk B N (some ({ s with pf := s.pf ++ [[]] }, some false)) := by
      refine ⟨?_, fun p hp' => ?_⟩
      · show (s.pf ++ [[]]).length ≤ _
        rw [List.length_append]; have := h.1; simp; omega
      · rcases List.mem_append.1 hp' with h' | h'
        · exact h.2 p h'
        · simp at h'; subst h'; exact Nat.zero_le _
    by_cases g : (cleanS c).2 = false
    · rw [begin_bad g]; exact begin_pb h
    · obtain ⟨q, e⟩ : ∃ q, cleanS c = (q, true) := ⟨(cleanS c).1, Prod.ext rfl (by simpa using g)⟩
      match q, e with
      | [], e => rw [begin_nil e]; exact hbad
      | [l], e =>
        rw [begin_one e]
        split
        · exact hbad
        · split
          · cases hse : s.set l (-1) with
            | none => trivial
            | some s1 =>
              obtain ⟨a, rfl⟩ := S.set_some hse
              exact begin_pb ⟨by show s.pf.length + (s.lf - 1) ≤ _; have := h.1; omega, h.2⟩
          · exact begin_pb h
      | x :: y :: r, e => rw [begin_more e (by simp)]; exact begin_pb (s := s.add (x :: y :: r)) h

theorem solve_pb {vars fu : Nat} {F : List (List Int)} (hF : ∀ c ∈ F, ∀ l ∈ c, l ≠ 0 ∧ l.natAbs < vars + 1) {r : S × Bool} (h : solve vars F fu = some r) : r.1.pf.length ≤ fu + 1 ∧ ∀ p ∈ r.1.pf, p.length ≤ vars + 1 := by
  have hb := begin_pb (B := fu) (N := vars + 1) (F := F) (s := S.new vars fu) ⟨by show 0 + fu ≤ fu; omega, fun p hp => by cases hp⟩
  have hi := begin_inv F (S.new vars fu) hF (new_inv vars fu) rfl
  unfold solve at h
  generalize S.begin F (S.new vars fu) = x at hb hi h
  match x, hb, hi, h with
  | none, _, _, h => cases h
  | some (s, some b), hb, _, h => cases h; exact hb
  | some (s, none), hb, hi, h => exact runN_pb _ s hi.1 hb r h
end Go.Proofs.Ytpepmhmgfpkdmaa

