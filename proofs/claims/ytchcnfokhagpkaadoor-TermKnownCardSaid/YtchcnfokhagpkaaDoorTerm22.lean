/- Texts are the same just if terms are. -/
import Derived.Test.YtchcnfokhagpkaaDoorTerm18
import Derived.Test.YtchcnfokhagpkaaDoorAmD
namespace Go.Proofs.YtchcnfokhagpkaaDoor
open Go Go.Am
set_option maxRecDepth 100000
variable {P : Program} {G : Nat → Option V}

def isD (c : UInt8) : Bool := decide (48 ≤ c.toNat ∧ c.toNat ≤ 57)
/-- What comes next is none of these. -/
def nx (p : UInt8 → Bool) : List UInt8 → Bool
  | [] => true
  | c :: _ => !p c
theorem split_p {p : UInt8 → Bool} : ∀ (l m u v : List UInt8), (∀ c ∈ l, p c = true) → (∀ c ∈ m, p c = true) → nx p u = true → nx p v = true → l ++ u = m ++ v → l = m ∧ u = v
  | [], [], u, v, _, _, _, _, h => ⟨rfl, h⟩
  | [], c :: m, u, v, _, hm, hu, _, h => by
    have h' : u = c :: (m ++ v) := h
    rw [h'] at hu
    simp [nx, hm c (List.mem_cons_self ..)] at hu
  | c :: l, [], u, v, hl, _, _, hv, h => by
    have h' : c :: (l ++ u) = v := h
    rw [← h'] at hv
    simp [nx, hl c (List.mem_cons_self ..)] at hv
  | c :: l, b :: m, u, v, hl, hm, hu, hv, h => by
    simp only [List.cons_append, List.cons.injEq] at h
    obtain ⟨h1, h2⟩ := split_p l m u v (fun x hx => hl x (List.mem_cons_of_mem _ hx)) (fun x hx => hm x (List.mem_cons_of_mem _ hx)) hu hv h.2
    exact ⟨by rw [h.1, h1], h2⟩

structure NumOk (fmt : Int → List UInt8) : Prop where
  ne : ∀ n, i64 n → ∃ c s, fmt n = c :: s ∧ (c = 45 ∨ isD c = true)
  inj : ∀ n m, i64 n → i64 m → ∀ u v, nx isD u = true → nx isD v = true → fmt n ++ u = fmt m ++ v → n = m ∧ u = v

theorem ofNat_digit {k : Nat} (h : k < 10) : (UInt8.ofNat (48 + k)).toNat = 48 + k := by
  rw [UInt8.toNat_ofNat']; omega
theorem dec_isD (u : Nat) : ∀ c ∈ Lib.decDigits u, isD c = true := by
  induction u using Nat.strongRecOn with
  | _ u ih =>
    intro c hc
    rw [Lib.decDigits] at hc
    split at hc
    · rename_i h
      simp only [List.mem_singleton] at hc
      subst hc
      have := ofNat_digit h
      simp only [isD, decide_eq_true_eq, this]; omega
    · rename_i h
      rcases List.mem_append.1 hc with hc | hc
      · exact ih (u / 10) (by omega) c hc
      · simp only [List.mem_singleton] at hc
        subst hc
        have := ofNat_digit (k := u % 10) (by omega)
        simp only [isD, decide_eq_true_eq, this]; omega
def dval (l : List UInt8) : Nat := l.foldl (fun a c => a * 10 + (c.toNat - 48)) 0
theorem dval_dec (u : Nat) : dval (Lib.decDigits u) = u := by
  induction u using Nat.strongRecOn with
  | _ u ih =>
    rw [Lib.decDigits]
    split
    · rename_i h
      simp only [dval, List.foldl_cons, List.foldl_nil, ofNat_digit h]; omega
    · rename_i h
      have := ih (u / 10) (by omega)
      simp only [dval] at this
      simp only [dval, List.foldl_append, this, List.foldl_cons, List.foldl_nil, ofNat_digit (k := u % 10) (by omega)]; omega
theorem dec_inj {a b : Nat} (h : Lib.decDigits a = Lib.decDigits b) : a = b := by rw [← dval_dec a, h, dval_dec]
theorem dec_ne (u : Nat) : Lib.decDigits u ≠ [] := by
  rw [Lib.decDigits]; split <;> simp
theorem numOk10 : NumOk fmt10 where
  ne := fun n hn => by
    have e : fmt10 n = Lib.itoa n := by unfold fmt10; exact if_pos hn
    rw [e]; unfold Lib.itoa
    split
    · exact ⟨45, _, rfl, .inl rfl⟩
    · obtain ⟨c, s, h⟩ := List.exists_cons_of_ne_nil (dec_ne n.toNat)
      exact ⟨c, s, h, .inr (dec_isD n.toNat c (by rw [h]; exact List.mem_cons_self ..))⟩
  inj := fun n m hn hm u v hu hv h => by
    have e : fmt10 n = Lib.itoa n := by unfold fmt10; exact if_pos hn
    have e' : fmt10 m = Lib.itoa m := by unfold fmt10; exact if_pos hm
    rw [e, e'] at h
    unfold Lib.itoa at h
    have h45 : isD 45 = false := by decide
    split at h <;> split at h
    · simp only [List.cons_append, List.cons.injEq, true_and] at h
      obtain ⟨h1, h2⟩ := split_p _ _ u v (dec_isD _) (dec_isD _) hu hv h
      have := dec_inj h1
      exact ⟨by omega, h2⟩
    · obtain ⟨c, s, hc⟩ := List.exists_cons_of_ne_nil (dec_ne m.toNat)
      have hd := dec_isD m.toNat c (by rw [hc]; exact List.mem_cons_self ..)
      rw [hc] at h
      simp only [List.cons_append, List.cons.injEq] at h
      rw [← h.1, h45] at hd
      cases hd
    · obtain ⟨c, s, hc⟩ := List.exists_cons_of_ne_nil (dec_ne n.toNat)
      have hd := dec_isD n.toNat c (by rw [hc]; exact List.mem_cons_self ..)
      rw [hc] at h
      simp only [List.cons_append, List.cons.injEq] at h
      rw [h.1, h45] at hd
      cases hd
    · obtain ⟨h1, h2⟩ := split_p _ _ u v (dec_isD _) (dec_isD _) hu hv h
      have := dec_inj h1
      exact ⟨by omega, h2⟩

/-- Which kind a text begins. -/
def code (c : UInt8) : Int := if c = 115 then 2 else if c = 97 then 3 else if c = 40 then 4 else 1
theorem code_isD {c : UInt8} (h : isD c = true) : code c = 1 := by
  simp only [isD, decide_eq_true_eq] at h
  unfold code
  rw [if_neg (by rintro rfl; revert h; decide), if_neg (by rintro rfl; revert h; decide), if_neg (by rintro rfl; revert h; decide)]
theorem words_code {fmt : Int → List UInt8} (hf : NumOk fmt) {d : Nd} (hn : i64 d.n) (hk : d.kind = 1 ∨ d.kind = 2 ∨ d.kind = 3 ∨ d.kind = 4) (x y : List UInt8) : ∃ c s, d.words fmt x y = c :: s ∧ code c = d.kind := by
  rcases hk with k | k | k | k
  · obtain ⟨c, s, h1, h2⟩ := hf.ne d.n hn
    refine ⟨c, s, by simp [Nd.words, k, h1], ?_⟩
    rw [k]
    rcases h2 with rfl | h2
    · decide
    · exact code_isD h2
  · exact ⟨115, fmt d.n, by simp [Nd.words, k], by rw [k]; decide⟩
  · exact ⟨97, _, by simp only [Nd.words, k, List.append_assoc, List.cons_append, List.nil_append]; rfl, by rw [k]; decide⟩
  · exact ⟨40, _, by simp only [Nd.words, k, List.append_assoc, List.cons_append, List.nil_append]; rfl, by rw [k]; decide⟩

theorem signs_inj : ∀ a b : Fin 17, signs.getD a [] = signs.getD b [] → a = b := by decide
theorem signs_nsp : ∀ a : Fin 17, ∀ c ∈ signs.getD a [], decide (c ≠ 32) = true := by decide

def distN (L : List Nd) : Prop := ∀ (i j : Nat) (d : Nd), L[i]? = some d → L[j]? = some d → i = j

theorem text_full (fmt : Int → List UInt8) {L : List Nd} (hok : okN L) {i : Nat} {d : Nd} (hd : L[i]? = some d) : (texts fmt L).getD i [] = d.words fmt ((texts fmt L).getD d.x.toNat []) ((texts fmt L).getD d.y.toNat []) := by
  have hi := (List.getElem?_eq_some_iff.1 hd).1
  obtain ⟨hp, _, hk⟩ := may_parts (hok i d hd).2.2
  rw [texts_at fmt hd]
  refine words_congr fmt d (fun k => ?_) ?_
  · have := hp d.y (by simp [Nd.parts, k])
    exact texts_take fmt (by omega) (by omega)
  · rcases hk with k | k | k | k
    · exact .inl k
    · exact .inr (.inl k)
    · exact .inr (.inr (.inl k))
    · have h1 := hp d.x (by simp [Nd.parts, k])
      have h2 := hp d.y (by simp [Nd.parts, k])
      exact .inr (.inr (.inr ⟨texts_take fmt (by omega) (by omega), texts_take fmt (by omega) (by omega)⟩))

theorem may_zero {d : Nd} {len : Nat} (h : d.may len = true) : ((d.kind = 1 ∨ d.kind = 2) → d.a = 0 ∧ d.op = 0 ∧ d.x = 0 ∧ d.y = 0) ∧ (d.kind = 3 → d.op = 0 ∧ d.x = 0) ∧ (d.kind = 4 → d.n = 0 ∧ d.a = 0) := by
  simp only [Nd.may, Bool.and_eq_true, decide_eq_true_eq] at h
  obtain ⟨⟨h1, h2, h3, h4, h5⟩, _⟩ := h
  refine ⟨fun k => ?_, fun k => ?_, fun k => ?_⟩
  · rcases k with k | k <;> rw [k] at h2 h3 h4 h5 <;> simp at h2 h3 h4 h5 <;> exact ⟨h2, h3, h4, h5⟩
  · rw [k] at h3 h4; simp at h3 h4; exact ⟨h3, h4⟩
  · rw [k] at h1 h2; simp at h1 h2; exact ⟨h1, h2⟩

theorem text_inj {fmt : Int → List UInt8} (hf : NumOk fmt) {L : List Nd} (hok : okN L) (hdist : distN L) : ∀ (f i j : Nat) (u v : List UInt8), i < f → i < L.length → j < L.length → nx isD u = true → nx isD v = true →
    (texts fmt L).getD i [] ++ u = (texts fmt L).getD j [] ++ v → i = j ∧ u = v := by
  intro f
  induction f with
  | zero => intro i j u v h; omega
  | succ f ih =>
    intro i j u v hif hi hj hu hv h
    obtain ⟨d, hd⟩ : ∃ d, L[i]? = some d := ⟨_, List.getElem?_eq_getElem hi⟩
    obtain ⟨e, he⟩ : ∃ e, L[j]? = some e := ⟨_, List.getElem?_eq_getElem hj⟩
    obtain ⟨hdn, hda, hdm⟩ := hok i d hd
    obtain ⟨hen, hea, hem⟩ := hok j e he
    obtain ⟨hdp, hdo, hdk⟩ := may_parts hdm
    obtain ⟨hep, heo, hek⟩ := may_parts hem
    have zd := may_zero hdm
    have ze := may_zero hem
    rw [text_full fmt hok hd, text_full fmt hok he] at h
    have hkk : d.kind = e.kind := by
      obtain ⟨c, s, h1, h2⟩ := words_code hf hdn hdk ((texts fmt L).getD d.x.toNat []) ((texts fmt L).getD d.y.toNat [])
      obtain ⟨c', s', h3, h4⟩ := words_code hf hen hek ((texts fmt L).getD e.x.toNat []) ((texts fmt L).getD e.y.toNat [])
      rw [h1, h3] at h
      simp only [List.cons_append, List.cons.injEq] at h
      rw [← h2, ← h4, h.1]
    have fin : d = e → u = v → i = j ∧ u = v := fun h1 h2 => ⟨hdist i j d hd (by rw [h1]; exact he), h2⟩
    rcases hdk with k | k | k | k
    · have k' : e.kind = 1 := by rw [← hkk]; exact k
      simp only [Nd.words, k, k', ↓reduceIte] at h
      obtain ⟨h1, h2⟩ := hf.inj _ _ hdn hen u v hu hv h
      refine fin ?_ h2
      have a1 := zd.1 (.inl k)
      have a2 := ze.1 (.inl k')
      cases d; cases e; simp_all
    · have k' : e.kind = 2 := by rw [← hkk]; exact k
      simp [Nd.words, k, k'] at h
      obtain ⟨h1, h2⟩ := hf.inj _ _ hdn hen u v hu hv h
      refine fin ?_ h2
      have a1 := zd.1 (.inr k)
      have a2 := ze.1 (.inr k')
      cases d; cases e; simp_all
    · have k' : e.kind = 3 := by rw [← hkk]; exact k
      have hy := hdp d.y (by simp [Nd.parts, k])
      have hy' := hep e.y (by simp [Nd.parts, k'])
      have wd : ∀ y, d.words fmt ((texts fmt L).getD d.x.toNat []) y = 97 :: (fmt d.a ++ 118 :: (fmt d.n ++ 91 :: (y ++ [93]))) := fun y => by simp [Nd.words, k]
      have we : ∀ y, e.words fmt ((texts fmt L).getD e.x.toNat []) y = 97 :: (fmt e.a ++ 118 :: (fmt e.n ++ 91 :: (y ++ [93]))) := fun y => by simp [Nd.words, k']
      rw [wd, we] at h
      simp only [List.append_assoc, List.cons_append, List.nil_append] at h
      have h := (List.cons.inj h).2
      obtain ⟨h1, h⟩ := hf.inj _ _ hda hea _ _ (by simp [nx, isD]) (by simp [nx, isD]) h
      have h := (List.cons.inj h).2
      obtain ⟨h2, h⟩ := hf.inj _ _ hdn hen _ _ (by simp [nx, isD]) (by simp [nx, isD]) h
      have h := (List.cons.inj h).2
      obtain ⟨h3, h⟩ := ih _ _ _ _ (by omega) (by omega) (by omega) (by simp [nx, isD]) (by simp [nx, isD]) h
      have h := (List.cons.inj h).2
      refine fin ?_ h
      have a1 := zd.2.1 k
      have a2 := ze.2.1 k'
      have a3 : d.y = e.y := by omega
      cases d; cases e; simp_all
    · have k' : e.kind = 4 := by rw [← hkk]; exact k
      have hy := hdp d.y (by simp [Nd.parts, k])
      have hy' := hep e.y (by simp [Nd.parts, k'])
      have hx := hdp d.x (by simp [Nd.parts, k])
      have hx' := hep e.x (by simp [Nd.parts, k'])
      have wd : ∀ x y, d.words fmt x y = 40 :: (x ++ 32 :: (signs.getD d.op.toNat [] ++ 32 :: (y ++ [41]))) := fun x y => by simp [Nd.words, k]
      have we : ∀ x y, e.words fmt x y = 40 :: (x ++ 32 :: (signs.getD e.op.toNat [] ++ 32 :: (y ++ [41]))) := fun x y => by simp [Nd.words, k']
      rw [wd, we] at h
      simp only [List.append_assoc, List.cons_append, List.nil_append] at h
      have h := (List.cons.inj h).2
      obtain ⟨h1, h⟩ := ih _ _ _ _ (by omega) (by omega) (by omega) (by simp [nx, isD]) (by simp [nx, isD]) h
      have h := (List.cons.inj h).2
      obtain ⟨h2, h⟩ := split_p (p := fun c => decide (c ≠ 32)) _ _ _ _ (signs_nsp ⟨d.op.toNat, by omega⟩) (signs_nsp ⟨e.op.toNat, by omega⟩) (by simp [nx]) (by simp [nx]) h
      have h := (List.cons.inj h).2
      obtain ⟨h3, h⟩ := ih _ _ _ _ (by omega) (by omega) (by omega) (by simp [nx, isD]) (by simp [nx, isD]) h
      have h := (List.cons.inj h).2
      refine fin ?_ h
      have a1 := zd.2.2 k
      have a2 := ze.2.2 k'
      have a3 : d.y = e.y := by omega
      have a4 : d.x = e.x := by omega
      have a5 : d.op = e.op := by
        have := signs_inj ⟨d.op.toNat, by omega⟩ ⟨e.op.toNat, by omega⟩ h2
        simp only [Fin.mk.injEq] at this
        omega
      cases d; cases e; simp_all

theorem dist_snoc {L : List Nd} (h : distN L) {d : Nd} (hn : ∀ j, j < L.length → L[j]? ≠ some d) : distN (L ++ [d]) := by
  intro i j e hi hj
  have li := (List.getElem?_eq_some_iff.1 hi).1
  have lj := (List.getElem?_eq_some_iff.1 hj).1
  simp only [List.length_append, List.length_cons, List.length_nil] at li lj
  rcases Nat.lt_or_ge i L.length with h1 | h1 <;> rcases Nat.lt_or_ge j L.length with h2 | h2
  · rw [List.getElem?_append_left h1] at hi
    rw [List.getElem?_append_left h2] at hj
    exact h i j e hi hj
  · have : j = L.length := by omega
    subst this
    simp at hj
    subst hj
    rw [List.getElem?_append_left h1] at hi
    exact absurd hi (hn i h1)
  · have : i = L.length := by omega
    subst this
    simp at hi
    subst hi
    rw [List.getElem?_append_left h2] at hj
    exact absurd hj (hn j h2)
  · omega

theorem idx_none_iff : ∀ {L : List Nd} {d : Nd}, idx d L = none → ∀ j : Nat, L[j]? ≠ some d
  | [], _, _, j, h => by simp at h
  | e :: l, d, hn, j, h => by
    simp only [idx] at hn
    split at hn
    · cases hn
    · rename_i hne
      cases j with
      | zero => simp at h; exact hne h.symm
      | succ j =>
        refine idx_none_iff (L := l) (d := d) ?_ j (by simpa using h)
        cases hx : idx d l with
        | none => rfl
        | some x => rw [hx] at hn; cases hn

theorem dist_addN {L : List Nd} (h : distN L) (d : Nd) : distN (addN L d).2 := by
  unfold addN
  split
  · split
    · exact h
    · rename_i hi
      exact dist_snoc h fun j _ => idx_none_iff hi j
  · exact h
theorem dist_fold : ∀ (l : List Nd) (L : List Nd), distN L → distN (l.foldl (fun L d => (addN L d).2) L)
  | [], _, h => h
  | d :: l, L, h => dist_fold l _ (dist_addN h d)
theorem dist_made (l : List Nd) : distN (madeL l) := dist_fold l [] fun i j d h => by simp at h

theorem addN_again {L : List Nd} (hdist : distN L) {i : Nat} {d : Nd} (hd : L[i]? = some d) (hm : d.may L.length = true) : addN L d = ((i : Int), L) := by
  have hi := (List.getElem?_eq_some_iff.1 hd).1
  have : idx d L = some i := idx_some (fun j hj hjd => by have := hdist j i d hjd hd; omega) hd
  unfold addN
  rw [if_pos hm, this]

theorem long_deep {P : Program} {G : Nat → Option V} (F : Fmt P G) {L : List Nd} (hok : okN L) : ∀ (k i : Nat), i < L.length → (deeps L).getD i 0 ≤ k → (longs F.fmt L).getD i 0 ≤ 60 * ((2 ^ k : Nat) : Int) - 60 := by
  intro k
  induction k with
  | zero =>
    intro i hi hk
    obtain ⟨d, hd⟩ : ∃ d, L[i]? = some d := ⟨_, List.getElem?_eq_getElem hi⟩
    have h1 := deeps_of hok hd
    have h2 := (deepA_mono (D := deeps L) d.parts 0).1
    have h3 : deepA (deeps L) d.parts = d.parts.foldl (fun m p => max m ((deeps L).getD p.toNat 0)) 0 := rfl
    omega
  | succ k ih =>
    intro i hi hk
    obtain ⟨d, hd⟩ : ∃ d, L[i]? = some d := ⟨_, List.getElem?_eq_getElem hi⟩
    obtain ⟨hp, hop, hkd⟩ := may_parts (hok i d hd).2.2
    have h1 := deeps_of hok hd
    have h2 := (deepA_mono (D := deeps L) d.parts 0).2
    have h3 : deepA (deeps L) d.parts = d.parts.foldl (fun m p => max m ((deeps L).getD p.toNat 0)) 0 := rfl
    rw [← h3] at h2
    have hw := words_sm F hop
    have hb : (1 : Int) ≤ ((2 ^ k : Nat) : Int) := by have := Nat.one_le_two_pow (n := k); omega
    have hpw : ((2 ^ (k + 1) : Nat) : Int) = 2 * ((2 ^ k : Nat) : Int) := by rw [Nat.pow_succ]; omega
    rw [hpw]
    have hpart : ∀ p ∈ d.parts, (longs F.fmt (L.take i)).getD p.toNat 0 ≤ 60 * ((2 ^ k : Nat) : Int) - 60 := fun p hpp => by
      have hb := hp p hpp
      rw [longs_take F.fmt (by omega) (by omega)]
      exact ih p.toNat (by omega) (by have := h2 p hpp; omega)
    generalize ((2 ^ k : Nat) : Int) = B at *
    rw [longs_at F.fmt hd]
    rcases hkd with k | k | k | k
    · have hps : d.parts = [] := by simp [Nd.parts, k]
      simp only [longF, longA, hps, List.foldl_nil]
      split <;> omega
    · have hps : d.parts = [] := by simp [Nd.parts, k]
      simp only [longF, longA, hps, List.foldl_nil]
      split <;> omega
    · have hps : d.parts = [d.y] := by simp [Nd.parts, k]
      have := hpart d.y (by simp [hps])
      simp only [longF, longA, hps, List.foldl_nil, List.foldl_cons]
      split <;> omega
    · have hps : d.parts = [d.x, d.y] := by simp [Nd.parts, k]
      have := hpart d.y (by simp [hps])
      have := hpart d.x (by simp [hps])
      simp only [longF, longA, hps, List.foldl_nil, List.foldl_cons]
      split <;> omega

/-- Short terms' texts are others. -/
theorem textL_inj {P : Program} {G : Nat → Option V} (F : Fmt P G) (hf : NumOk F.fmt) {L : List Nd} (hok : okN L) (hdist : distN L) {i j : Nat} (hi : i < L.length) (hj : j < L.length) (di : (deeps L).getD i 0 ≤ 8) (dj : (deeps L).getD j 0 ≤ 8) (h : textL F.fmt L (i : Int) = textL F.fmt L (j : Int)) : i = j := by
  have bi := long_deep F hok 8 i hi di
  have bj := long_deep F hok 8 j hj dj
  simp only [textL, Int.toNat_natCast] at h
  rw [if_pos ⟨⟨by omega, by omega⟩, by omega⟩, if_pos ⟨⟨by omega, by omega⟩, by omega⟩] at h
  exact (text_inj hf hok hdist (i + 1) i j [] [] (by omega) hi hj rfl rfl (by rw [h])).1
end Go.Proofs.YtchcnfokhagpkaaDoor
