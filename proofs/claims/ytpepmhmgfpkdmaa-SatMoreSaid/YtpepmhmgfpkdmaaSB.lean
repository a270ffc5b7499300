/- The solver is sound, and complete: how it begins, and what it tells. -/
import Derived.Test.YtpepmhmgfpkdmaaSA
/- The solver is sound, and complete: how it begins, and what it tells. -/
namespace Go.Sat
open Go Go.Cl

theorem sb_bad {c : List Int} {F : List (List Int)} {s : S} (h : (cleanS c).2 = false) : S.begin (c :: F) s = S.begin F s := by
  rw [S.begin, if_pos h]
theorem sb_nil {c : List Int} {F : List (List Int)} {s : S} (h : cleanS c = ([], true)) : S.begin (c :: F) s = some ({ s with pf := s.pf ++ [[]] }, some false) := by
  rw [S.begin, h]; rfl
theorem sb_one {c : List Int} {l : Int} {F : List (List Int)} {s : S} (h : cleanS c = ([l], true)) : S.begin (c :: F) s = if s.is l = -1 then some ({ s with pf := s.pf ++ [[]] }, some false) else
      if s.is l = 0 then (match s.set l (-1) with | none => none | some s => S.begin F s) else S.begin F s := by
  rw [S.begin, h]; rfl
theorem sb_more {c q : List Int} {F : List (List Int)} {s : S} (h : cleanS c = (q, true)) (hq : 1 < q.length) : S.begin (c :: F) s = S.begin F (s.add q) := by
  rw [S.begin, h]
  match q, hq with
  | a :: b :: r, _ => rfl

def BegT (N : Nat) (Q : (Nat → Bool) → Prop) (F : List (List Int)) : Option (S × Option Bool) → Prop
  | none => True
  | some (s', none) => All N Q F s' ∧ s'.ms = [] ∧ s'.dn = 0
  | some (_, some b) => b = false ∧ ∀ M, ¬ Q M

theorem begin_all {N : Nat} {Q : (Nat → Bool) → Prop} (hN : N ≤ 1000) : ∀ (R P : List (List Int)) (s : S), (∀ c ∈ R, ∀ l ∈ c, l ≠ 0 ∧ l.natAbs < N) → (∀ M, Q M → ∀ c ∈ R, Holds M c) → All N Q P s → s.ms = [] → s.dn = 0 → BegT N Q (P ++ R) (S.begin R s)
  | [], P, s, _, _, ha, hm, hd => by rw [List.append_nil]; exact ⟨ha, hm, hd⟩
  | c :: R, P, s, hF, hQ, ha, hm, hd => by
    have step : ∀ s', All N Q (P ++ [c]) s' → s'.ms = [] → s'.dn = 0 → BegT N Q (P ++ c :: R) (S.begin R s') := fun s' h1 h2 h3 => by
      have := begin_all hN R (P ++ [c]) s' (fun d hd => hF d (List.mem_cons_of_mem _ hd)) (fun M hM d hd => hQ M hM d (List.mem_cons_of_mem _ hd)) h1 h2 h3
      rwa [List.append_assoc, List.singleton_append] at this
    have hc := hF c (by simp)
    have hlev : ∀ l ∈ s.tr, s.lev l = 0 := fun l hl => by
      have := ha.inv.lev l hl
      rw [hm] at this
      exact Nat.le_zero.1 this
    rcases hcl : cleanS c with ⟨q, b⟩
    cases b with
    | false =>
      rw [sb_bad (by rw [hcl])]
      refine step s ⟨ha.inv, ha.snd, fun d hdm => ?_⟩ hm hd
      rcases List.mem_append.1 hdm with h | h
      · exact ha.cov d h
      · simp at h; subst h
        have hb : bad d = true := by
          unfold cleanS at hcl
          split at hcl
          · assumption
          · cases hcl
        obtain ⟨n, hn, h⟩ := List.any_eq_true.1 hb
        have h1 := hc n hn
        simp only [Bool.or_eq_true, decide_eq_true_eq] at h
        refine .inl ⟨n, hn, ?_⟩
        rcases h with h | h
        · exact absurd h h1.1
        · rwa [neg_ne (by unfold mn; omega)] at h
    | true =>
      obtain ⟨hok, hmem⟩ := clean_ok hc hcl
      match q, hcl, hok, hmem with
      | [], hcl, hok, hmem =>
        rw [sb_nil hcl]
        refine ⟨rfl, fun M hM => ?_⟩
        obtain ⟨l, hl, _⟩ := hQ M hM c (by simp)
        have := (hmem l).2 hl
        cases this
      | [l], hcl, hok, hmem =>
        rw [sb_one hcl]
        have hlc : l ∈ c := (hmem l).1 (by simp)
        have hl0 := hc l hlc
        have htl : ∀ M, Q M → tru M l = true := fun M hM => by
          obtain ⟨x, hx, ht⟩ := hQ M hM c (by simp)
          have := (hmem x).2 hx
          simp at this
          subst this
          exact ht
        have hcov : ∀ s', All N Q P s' → l ∈ s'.tr → s'.lev l = 0 → All N Q (P ++ [c]) s' := fun s' h1 h2 h3 => ⟨h1.inv, h1.snd, fun d hdm => by
          rcases List.mem_append.1 hdm with h | h
          · exact h1.cov d h
          · simp at h; subst h
            exact .inr (.inl ⟨l, hlc, h2, h3⟩)⟩
        by_cases g1 : s.is l = -1
        · rw [if_pos g1]
          refine ⟨rfl, fun M hM => ?_⟩
          have h1 := ha.inv.is_neg.1 g1
          have h2 := (ha.snd M hM).2 (-l) h1 (hlev _ h1)
          rw [tru_neg hl0.1, htl M hM] at h2
          cases h2
        · rw [if_neg g1]
          by_cases g2 : s.is l = 0
          · rw [if_pos g2]
            obtain ⟨z1, z2⟩ := ha.inv.is_zero.1 g2
            cases hse : s.set l (-1) with
            | none => trivial
            | some s1 =>
              have hx := set_ext hse
              have htel := set_tel (Q := Q) hse (by rw [ha.inv.nlv]; exact hl0.2) z1 z2 fun _ => htl
              have hi := ha.inv.set hse hl0.1 hl0.2 z1 z2 (.inl (by rw [hm]; rfl))
              obtain ⟨_, hs1⟩ := S.set_some hse
              have hin : l ∈ s1.tr := by rw [hs1]; simp
              refine step s1 (hcov s1 (htel.all ha hi) hin ?_) (hx.ms.trans hm) (hx.dn.trans hd)
              have := hi.lev l hin
              rw [hx.ms, hm] at this
              exact Nat.le_zero.1 this
          · rw [if_neg g2]
            have hin : l ∈ s.tr := by
              by_cases h1 : l ∈ s.tr
              · exact h1
              · by_cases h2 : -l ∈ s.tr
                · exact absurd (ha.inv.is_neg.2 h2) g1
                · exact absurd (ha.inv.is_zero.2 ⟨h1, h2⟩) g2
            exact step s (hcov s ha hin (hlev l hin)) hm hd
      | x :: y :: r, hcl, hok, hmem =>
        rw [sb_more hcl (by simp)]
        refine step (s.add (x :: y :: r)) ⟨add_inv ha.inv ⟨by simp, hok⟩, fun M hM => ⟨fun d hdm => ?_, (ha.snd M hM).2⟩, fun d hdm => ?_⟩ hm hd
        · rcases List.mem_append.1 hdm with h | h
          · exact (ha.snd M hM).1 d h
          · simp at h; subst h
            exact (hQ M hM c (by simp)).sub fun x hx => (hmem x).2 hx
        · rcases List.mem_append.1 hdm with h | h
          · rcases ha.cov d h with h1 | h1 | ⟨e, h1, h2⟩
            · exact .inl h1
            · exact .inr (.inl h1)
            · exact .inr (.inr ⟨e, List.mem_append_left _ h1, h2⟩)
          · simp at h; subst h
            exact .inr (.inr ⟨x :: y :: r, List.mem_append_right _ (by simp), fun z hz => (hmem z).1 hz⟩)

theorem solve_tells {vars fu : Nat} {F : List (List Int)} (hN : vars + 1 ≤ 1000) (hF : ∀ c ∈ F, ∀ l ∈ c, l ≠ 0 ∧ l.natAbs < vars + 1) {r : S × Bool} (h : solve vars F fu = some r) : Tells (fun M => ∀ c ∈ F, Holds M c) F r := by
  have hb := begin_all (Q := fun M => ∀ c ∈ F, Holds M c) hN F [] (S.new vars fu) hF (fun M hM => hM) ⟨new_inv vars fu, fun M _ => ⟨fun c hc => (by cases hc), fun l hl => (by cases hl)⟩, fun c hc => (by cases hc)⟩ rfl rfl
  rw [List.nil_append] at hb
  unfold solve at h
  generalize S.begin F (S.new vars fu) = x at hb h
  match x, hb, h with
  | none, _, h => cases h
  | some (s, some b), hb, h =>
    cases h
    obtain ⟨rfl, hb⟩ := hb
    exact hb
  | some (s, none), hb, h =>
    obtain ⟨h1, h2, h3⟩ := hb
    exact runN_all hF _ s h1 (fun m c hm a b hp i hi => absurd hi (by rw [h3]; omega)) r h
end Go.Sat

/- The solver's fuel: with enough of it there is an answer. -/
namespace Go.Sat
open Go Go.Cl

theorem lt_len : ∀ {n : Nat} {l : List Nat}, l.Nodup → (∀ x ∈ l, x < n) → l.length ≤ n
  | 0, [], _, _ => by simp
  | 0, x :: l, _, h => by have := h x (by simp); omega
  | n + 1, l, h, hl => by
    have h1 : (l.erase n).length ≤ n := lt_len (h.erase n) fun x hx => by
      have := hl x (List.mem_of_mem_erase hx)
      have : x ≠ n := fun e => by subst e; exact (List.Nodup.mem_erase_iff h).1 hx |>.1 rfl
      omega
    have h2 := List.length_erase (a := n) (l := l)
    split at h2 <;> omega
theorem ok_len {N : Nat} {c : List Int} (h : Okc N c) : c.length ≤ N := by
  have := lt_len (n := N) h.2 fun x hx => by
    obtain ⟨y, hy, rfl⟩ := List.mem_map.1 hx
    exact (h.1 y hy).2
  simpa using this

/-- How far the search has come: a decision that stands counts one, what follows two. -/
def phi (n : Nat) (ms : List Nat) : Nat → Nat
  | 0 => 0
  | t + 1 => phi n ms t + (if t ∈ ms then 1 else 2) * 3 ^ (n - 1 - t)

theorem phi_from (n : Nat) (ms : List Nat) (m : Nat) : ∀ t, m ≤ t → t ≤ n → phi n ms t + 3 ^ (n - t) ≤ phi n ms m + 3 ^ (n - m)
  | 0, h, _ => by
    have : m = 0 := by omega
    subst this; exact Nat.le_refl _
  | t + 1, h, ht => by
    rcases Nat.lt_or_ge m (t + 1) with hm | hm
    · have ih := phi_from n ms m t (by omega) (by omega)
      have e : n - t = (n - 1 - t) + 1 := by omega
      have e2 : n - (t + 1) = n - 1 - t := by omega
      rw [phi, e2]
      rw [e, Nat.pow_succ] at ih
      generalize 3 ^ (n - 1 - t) = w at *
      split <;> omega
    · have : m = t + 1 := by omega
      subst this; exact Nat.le_refl _
theorem phi_le (n : Nat) (ms : List Nat) {t : Nat} (ht : t ≤ n) : phi n ms t + 3 ^ (n - t) ≤ 3 ^ n := by
  have := phi_from n ms 0 t (Nat.zero_le _) ht
  simpa [phi] using this
theorem phi_congr {n : Nat} {ms ms' : List Nat} : ∀ {t : Nat}, (∀ i, i < t → (i ∈ ms ↔ i ∈ ms')) → phi n ms t = phi n ms' t
  | 0, _ => rfl
  | t + 1, h => by
    rw [phi, phi, phi_congr fun i hi => h i (by omega)]
    by_cases g : t ∈ ms
    · rw [if_pos g, if_pos ((h t (by omega)).1 g)]
    · rw [if_neg g, if_neg fun k => g ((h t (by omega)).2 k)]
theorem phi_grow (n : Nat) (ms : List Nat) (t : Nat) : ∀ j, phi n ms t + j ≤ phi n ms (t + j)
  | 0 => Nat.le_refl _
  | j + 1 => by
    have ih := phi_grow n ms t j
    rw [← Nat.add_assoc t j 1, phi]
    have : 1 ≤ 3 ^ (n - 1 - (t + j)) := Nat.pos_of_ne_zero (by simp)
    generalize 3 ^ (n - 1 - (t + j)) = w at *
    split <;> omega
/-- Back, and one that follows where a decision stood. -/
theorem phi_back {n : Nat} {ms ms' : List Nat} {m t : Nat} (hm : m ∈ ms) (hm' : m ∉ ms') (h : ∀ i, i < m → (i ∈ ms ↔ i ∈ ms')) (hmt : m < t) (ht : t ≤ n) : phi n ms t + 1 ≤ phi n ms' (m + 1) := by
  have h1 := phi_from n ms (m + 1) t hmt ht
  rw [phi, if_pos hm, phi_congr h] at h1
  rw [phi, if_neg hm']
  have e : n - (m + 1) = n - 1 - m := by omega
  rw [e] at h1
  have : 1 ≤ 3 ^ (n - t) := Nat.pos_of_ne_zero (by simp)
  omega

structure Pot (N L : Nat) (s : S) : Prop where
  inc : s.ms.Pairwise (· < ·)
  lt : ∀ m ∈ s.ms, m < s.tr.length
  fuel : L ≤ s.lf + 2 * phi N s.ms s.tr.length

theorem Pot.lf {N L : Nat} {s : S} (h : Pot N L s) (hi : Inv N s) : L + 2 ≤ s.lf + 2 * 3 ^ N := by
  have h1 := phi_le N s.ms (ok_len hi.tro)
  have h2 := h.fuel
  have : 1 ≤ 3 ^ (N - s.tr.length) := Nat.pos_of_ne_zero (by simp)
  omega

/-- More on the trail, no mark more. -/
theorem Pot.grow {N L : Nat} {s s' : S} (h : Pot N L s) (hm : s'.ms = s.ms) (ht : ∃ t, s'.tr = s.tr ++ t) (hl : s'.lf + s'.tr.length = s.lf + s.tr.length) : Pot N L s' := by
  obtain ⟨t, ht⟩ := ht
  have hlen : s'.tr.length = s.tr.length + t.length := by rw [ht, List.length_append]
  refine ⟨hm ▸ h.inc, fun m hmm => ?_, ?_⟩
  · have := h.lt m (hm ▸ hmm); omega
  · have h1 := phi_grow N s.ms s.tr.length t.length
    have h2 := h.fuel
    rw [hm, hlen]
    omega

theorem set_out {s : S} {l r : Int} (h : s.set l r = none) : s.lf = 0 := by
  unfold S.set at h
  by_cases q : s.lf = 0
  · exact q
  · rw [if_neg q] at h; cases h
theorem visit_out {s : S} {n : Nat} {l : Int} (h : s.visit n l = .out) : s.lf = 0 := by
  unfold S.visit S.visD at h
  split at h
  · cases h
  · split at h
    · cases h
    · split at h
      · cases h
      · split at h
        · rename_i e
          exact set_out (s := s.put n _) e
        · cases h

theorem pass_none {N : Nat} {l : Int} : ∀ (rest kept : List Nat) (s : S), Inv N (s.sub l (kept ++ rest)) → -l ∈ s.tr → S.pass l kept rest s = none → s.lf + s.tr.length ≤ N
  | [], kept, s, h, hl, e => by cases e
  | n :: rest, kept, s, h, hl, e => by
    have hv := visit_inv h hl
    unfold S.pass at e
    cases hvi : s.visit n l with
    | moved s' =>
      rw [hvi] at e hv
      have := pass_none rest kept s' hv.1 (hv.2.mem hl) e
      have h2 := hv.2.lf
      omega
    | kept s' =>
      rw [hvi] at e hv
      have := pass_none rest (kept ++ [n]) s' hv.1 (hv.2.mem hl) e
      have h2 := hv.2.lf
      omega
    | bad s' => rw [hvi] at e; cases e
    | out =>
      have h1 := visit_out hvi
      have h2 : s.tr.length ≤ N := ok_len h.tro
      omega

theorem spread_none {N : Nat} : ∀ (k : Nat) (s : S), Inv N s → s.room < k → S.spreadN k s = none → s.lf + s.tr.length ≤ N
  | 0, s, _, h, _ => by omega
  | k + 1, s, h, hk, e0 => by
    unfold S.spreadN at e0
    split at e0
    · cases e0
    · rename_i l e
      have hlt := (List.getElem?_eq_some_iff.1 e).1
      have h1 := h.look hlt
      have h2 : Inv N (({ s with dn := s.dn + 1 } : S).sub (-l) ([] ++ s.wt (-l))) := by rw [List.nil_append]; exact (sub_self { s with dn := s.dn + 1 } (-l)).symm ▸ h1
      have h3 : - -l ∈ ({ s with dn := s.dn + 1 } : S).tr := by rw [Int.neg_neg]; exact List.mem_of_getElem? e
      have hp := pass_inv (N := N) (l := -l) (s.wt (-l)) [] { s with dn := s.dn + 1 } h2 h3
      have hn := pass_none (N := N) (l := -l) (s.wt (-l)) [] { s with dn := s.dn + 1 } h2 h3
      generalize S.pass (-l) [] (s.wt (-l)) { s with dn := s.dn + 1 } = r at hp hn e0
      match r, hp, hn, e0 with
      | none, _, hn, _ => exact hn rfl
      | some (s', some n), _, _, e0 => cases e0
      | some (s', none), hp, _, e0 =>
        obtain ⟨a1, a2⟩ := hp
        have b1 := a2.lf
        have b2 := a2.dn
        have b3 := a2.le
        obtain ⟨t, ht⟩ := a2.tr
        have b4 := congrArg List.length ht
        simp only [List.length_append] at b1 b4
        replace b1 : s'.lf + s'.tr.length = s.lf + s.tr.length := b1
        replace b2 : s'.dn = s.dn + 1 := b2
        replace b3 : s'.lf ≤ s.lf := b3
        have := spread_none k s' a1 (by unfold S.room at hk ⊢; omega) e0
        omega
end Go.Sat

/- With enough fuel there is an answer: rounds, and how it begins. -/
namespace Go.Sat
open Go Go.Cl

theorem teach_st {s s' : S} {c : List Int} {level m : Nat} (h : s.teach c level = some s') (hm : s.ms[level]? = some m) : s'.ms = s.ms.take level ∧ (∃ x, s'.tr = s.tr.take m ++ [x]) ∧ s'.lf + 1 = s.lf := by
  unfold S.teach at h
  simp only at h
  rw [S.back_of (s := { s with pf := s.pf ++ [(cleanS c).1] }) hm] at h
  split at h
  · obtain ⟨hf, rfl⟩ := S.set_some h
    replace hf : s.lf ≠ 0 := hf
    exact ⟨rfl, ⟨_, rfl⟩, by show s.lf - 1 + 1 = s.lf; omega⟩
  · obtain ⟨hf, rfl⟩ := S.set_some h
    replace hf : s.lf ≠ 0 := hf
    exact ⟨rfl, ⟨_, rfl⟩, by show s.lf - 1 + 1 = s.lf; omega⟩
theorem teach_out {s : S} {c : List Int} {level m : Nat} (h : s.teach c level = none) (hm : s.ms[level]? = some m) : s.lf = 0 := by
  unfold S.teach at h
  simp only at h
  rw [S.back_of (s := { s with pf := s.pf ++ [(cleanS c).1] }) hm] at h
  split at h
  · have := set_out h
    exact this
  · have := set_out h
    exact this

theorem take_at {ms : List Nat} {level m : Nat} (hi : ms.Pairwise (· < ·)) (hm : ms[level]? = some m) : m ∉ ms.take level ∧ (∀ x ∈ ms.take level, x < m) ∧ ∀ i, i < m → (i ∈ ms ↔ i ∈ ms.take level) := by
  obtain ⟨hl, he⟩ := List.getElem?_eq_some_iff.1 hm
  have hp := List.pairwise_iff_getElem.1 hi
  have hlt : ∀ x ∈ ms.take level, x < m := fun x hx => by
    obtain ⟨j, hj, rfl⟩ := List.getElem_of_mem hx
    have h1 : j < level := by
      have := hj
      rw [List.length_take] at this
      omega
    rw [List.getElem_take, ← he]
    exact hp j level (by omega) hl h1
  refine ⟨fun h => Nat.lt_irrefl _ (hlt m h), hlt, fun i him => ⟨fun h => ?_, fun h => List.mem_of_mem_take h⟩⟩
  obtain ⟨j, hj, rfl⟩ := List.getElem_of_mem h
  have h1 : j < level := by
    rcases Nat.lt_trichotomy j level with h' | h' | h'
    · exact h'
    · subst h'; omega
    · have := hp level j hl hj h'; omega
  exact List.mem_take_iff_getElem.2 ⟨j, by omega, rfl⟩

theorem teach_pot {N L : Nat} {s s' : S} {c : List Int} {level f : Nat} (hi : Inv N s) (hinc : s.ms.Pairwise (· < ·)) (hlt : ∀ m ∈ s.ms, m < s.tr.length) (hL : L ≤ s.lf + 1 + 2 * phi N s.ms s.tr.length) (hl : level < s.ms.length) (h : s.teach c level = some s') : Pot N L s' := by
  obtain ⟨m, hm⟩ : ∃ m, s.ms[level]? = some m := ⟨_, List.getElem?_eq_getElem hl⟩
  obtain ⟨e1, ⟨x, e2⟩, e3⟩ := teach_st h hm
  obtain ⟨k1, k2, k3⟩ := take_at hinc hm
  have hmm := List.mem_of_getElem? hm
  have hml := hlt m hmm
  have hlen : s'.tr.length = m + 1 := by rw [e2, List.length_append, List.length_take, List.length_singleton]; omega
  refine ⟨e1 ▸ hinc.sublist (List.take_sublist _ _), fun y hy => ?_, ?_⟩
  · rw [e1] at hy
    have := k2 y hy
    omega
  · have := phi_back (n := N) hmm k1 k3 hml (ok_len hi.tro)
    rw [e1, hlen]
    omega

theorem round_pot {N L : Nat} {s : S} (hL : 2 * 3 ^ N + N < L) (hi : Inv N s) (hp : Pot N L s) : ∃ s' o, s.round = some (s', o) ∧ (o = none → Pot N L s') := by
  have hs := spread_inv (s.room + 1) s hi (Nat.lt_succ_self _)
  have hn := spread_none (s.room + 1) s hi (Nat.lt_succ_self _)
  have hlf := hp.lf hi
  unfold S.round S.spread
  generalize S.spreadN (s.room + 1) s = r at hs hn
  match r, hs, hn with
  | none, _, hn => have := hn rfl; omega
  | some (s1, some n), hs, _ =>
    obtain ⟨h1, h2, c, h3, h4, y, h5, h6⟩ := hs
    have hp1 := hp.grow h2.ms h2.tr h2.lf
    have hl1 := hp1.lf h1
    simp only
    by_cases g1 : s1.ms.length = 0
    · rw [if_pos g1]; exact ⟨_, _, rfl, fun e => by cases e⟩
    · rw [if_neg g1]
      unfold S.burn
      rw [if_neg (by omega)]
      have hb := h1.fuel (s1.lf - 1)
      obtain ⟨d, level, he, e, ht⟩ := learn_inv hb (Nat.pos_of_ne_zero g1) h3 h4 h5 h6
      simp only [e]
      have hh := hb.heat ht.hlen
      cases hte : S.teach { s1 with lf := s1.lf - 1, he := he } d level with
      | none =>
        obtain ⟨m, hm⟩ : ∃ m, s1.ms[level]? = some m := ⟨_, List.getElem?_eq_getElem ht.lt⟩
        have := teach_out hte hm
        replace this : s1.lf - 1 = 0 := this
        omega
      | some s2 =>
        refine ⟨s2, none, rfl, fun _ => teach_pot (f := 0) hh hp1.inc hp1.lt ?_ ht.lt hte⟩
        have := hp1.fuel
        show L ≤ s1.lf - 1 + 1 + 2 * phi N s1.ms s1.tr.length
        omega
  | some (s1, none), hs, _ =>
    obtain ⟨h1, h2, h3⟩ := hs
    have hp1 := hp.grow h2.ms h2.tr h2.lf
    have hl1 := hp1.lf h1
    simp only
    by_cases g1 : s1.pick = 0
    · rw [if_pos g1]; exact ⟨_, _, rfl, fun e => by cases e⟩
    · rw [if_neg g1]
      cases hse : S.set { s1 with ms := s1.ms ++ [s1.tr.length] } (-(s1.pick : Int)) (-1) with
      | none =>
        have := set_out hse
        replace this : s1.lf = 0 := this
        omega
      | some s2 =>
        obtain ⟨_, rfl⟩ := S.set_some hse
        refine ⟨_, none, rfl, fun _ => ⟨?_, fun m hm => ?_, ?_⟩⟩
        · show (s1.ms ++ [s1.tr.length]).Pairwise (· < ·)
          refine List.pairwise_append.2 ⟨hp1.inc, List.pairwise_singleton .., fun a ha b hb => ?_⟩
          simp at hb; subst hb
          exact hp1.lt a ha
        · show m < (s1.tr ++ [_]).length
          rw [List.length_append, List.length_singleton]
          rcases List.mem_append.1 hm with h | h
          · have := hp1.lt m h; omega
          · simp at h; omega
        · show L ≤ s1.lf - 1 + 2 * phi N (s1.ms ++ [s1.tr.length]) (s1.tr ++ [_]).length
          rw [List.length_append, List.length_singleton, phi]
          have e := phi_congr (n := N) (ms := s1.ms) (ms' := s1.ms ++ [s1.tr.length]) (t := s1.tr.length) fun i hi => by simp; omega
          rw [← e]
          have h7 := hp1.fuel
          have : 1 ≤ 3 ^ (N - 1 - s1.tr.length) := Nat.pos_of_ne_zero (by simp)
          generalize 3 ^ (N - 1 - s1.tr.length) = w at *
          split <;> omega

theorem runN_some {N L : Nat} (hL : 2 * 3 ^ N + N < L) : ∀ (k : Nat) (s : S), Inv N s → Pot N L s → s.lf < k → ∃ r, S.runN k s = some r
  | 0, s, _, _, h => by omega
  | k + 1, s, hi, hp, hk => by
    obtain ⟨s1, o, e, hq⟩ := round_pot hL hi hp
    have hr := round_inv hi
    rw [e] at hr
    unfold S.runN
    rw [e]
    cases o with
    | some b => exact ⟨_, rfl⟩
    | none => exact runN_some hL k s1 hr.1 (hq rfl) (by have : s1.lf < s.lf := hr.2; omega)

theorem begin_some {N L : Nat} (hL : 2 * 3 ^ N + N < L) : ∀ (F : List (List Int)) (s : S), (∀ c ∈ F, ∀ l ∈ c, l ≠ 0 ∧ l.natAbs < N) → Inv N s → s.ms = [] → Pot N L s → ∃ s' o, S.begin F s = some (s', o) ∧ (o = none → Pot N L s')
  | [], s, _, _, _, hp => ⟨s, none, rfl, fun _ => hp⟩
  | c :: F, s, hF, hi, hm, hp => by
    have hF' : ∀ c ∈ F, ∀ l ∈ c, l ≠ 0 ∧ l.natAbs < N := fun d hd => hF d (List.mem_cons_of_mem _ hd)
    rcases hcl : cleanS c with ⟨q, b⟩
    cases b with
    | false => rw [sb_bad (by rw [hcl])]; exact begin_some hL F s hF' hi hm hp
    | true =>
      obtain ⟨hok, _⟩ := clean_ok (hF c (by simp)) hcl
      match q, hcl, hok with
      | [], hcl, _ => rw [sb_nil hcl]; exact ⟨_, _, rfl, fun e => by cases e⟩
      | [l], hcl, hok =>
        rw [sb_one hcl]
        have hl := hok.1 l (by simp)
        by_cases g1 : s.is l = -1
        · rw [if_pos g1]; exact ⟨_, _, rfl, fun e => by cases e⟩
        · rw [if_neg g1]
          by_cases g2 : s.is l = 0
          · rw [if_pos g2]
            obtain ⟨z1, z2⟩ := hi.is_zero.1 g2
            cases hse : s.set l (-1) with
            | none =>
              have h0 := set_out hse
              have h1 := hp.lf hi
              omega
            | some s1 =>
              have hx := set_ext hse
              exact begin_some hL F s1 hF' (hi.set hse hl.1 hl.2 z1 z2 (.inl (by rw [hm]; rfl))) (hx.ms.trans hm) (hp.grow hx.ms hx.tr hx.lf)
          · rw [if_neg g2]; exact begin_some hL F s hF' hi hm hp
      | x :: y :: r, hcl, hok =>
        rw [sb_more hcl (by simp)]
        exact begin_some hL F (s.add (x :: y :: r)) hF' (add_inv hi ⟨by simp, hok⟩) hm ⟨hp.inc, hp.lt, hp.fuel⟩

/-- With fuel of 2^20 any formula of 8 variables has an answer, and it is right. -/
theorem solve_some {vars : Nat} {F : List (List Int)} (hv : vars ≤ 8) (hF : ∀ c ∈ F, ∀ l ∈ c, l ≠ 0 ∧ l.natAbs < vars + 1) : ∃ r, solve vars F 1048576 = some r := by
  have h3 : 3 ^ (vars + 1) ≤ 19683 := Nat.le_trans (Nat.pow_le_pow_right (by omega) (show vars + 1 ≤ 9 by omega)) (by decide)
  have hL : 2 * 3 ^ (vars + 1) + (vars + 1) < 1048576 := by omega
  obtain ⟨s, o, e, hp⟩ := begin_some hL F (S.new vars 1048576) hF (new_inv vars _) rfl ⟨.nil, fun m hm => (by cases hm), Nat.le_add_right _ _⟩
  have hi := begin_inv F (S.new vars 1048576) hF (new_inv vars _) rfl
  unfold solve
  rw [e] at hi ⊢
  cases o with
  | some b => exact ⟨_, rfl⟩
  | none => exact runN_some hL _ s hi.1 (hp rfl) (Nat.lt_succ_self _)
end Go.Sat

