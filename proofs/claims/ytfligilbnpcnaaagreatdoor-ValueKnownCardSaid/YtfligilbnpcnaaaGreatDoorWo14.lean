/- The value of each term by definition; what the program's map holds is that. -/
import Derived.Test.YtfligilbnpcnaaaGreatDoorWoM
namespace Go.Proofs.YtfligilbnpcnaaaGreatDoor
open Go Go.Am
set_option maxRecDepth 100000
set_option maxHeartbeats 1000000
variable {P : Program} {G : Nat → Option V}

/-- The value of a term whose parts' values are told. -/
def stepV (S : List Int) (C : List Cl) (v : Int → Int) (d : Nd) : Int :=
  if d.kind = 1 then d.n else if d.kind = 2 then symE S d.n else if d.kind = 3 then cellE C d.a d.n (v d.y) else doW d.op (v d.x) (v d.y)
/-- Two environments that tell the same of a term, and parts of the same value. -/
theorem stepV_same {S S' : List Int} {C C' : List Cl} {v v' : Int → Int} {d : Nd} (hk : d.kind = 1 ∨ d.kind = 2 ∨ d.kind = 3 ∨ d.kind = 4) (h : ∀ p ∈ d.parts, v p = v' p)
    (hs : d.kind = 2 → symE S d.n = symE S' d.n) (hc : d.kind = 3 → ∀ y, cellE C d.a d.n y = cellE C' d.a d.n y) : stepV S C v d = stepV S' C' v' d := by
  unfold stepV
  rcases hk with k | k | k | k
  · rw [if_pos k, if_pos k]
  · simp [k, hs k]
  · have := h d.y (by simp [Nd.parts, k])
    simp [k, this, hc k]
  · have h1 := h d.x (by simp [Nd.parts, k])
    have h2 := h d.y (by simp [Nd.parts, k])
    simp [k, h1, h2]
theorem stepV_congr {S : List Int} {C : List Cl} {v v' : Int → Int} {d : Nd} (hk : d.kind = 1 ∨ d.kind = 2 ∨ d.kind = 3 ∨ d.kind = 4) (h : ∀ p ∈ d.parts, v p = v' p) : stepV S C v d = stepV S C v' d :=
  stepV_same hk h (fun _ => rfl) (fun _ _ => rfl)
def valsF (S : List Int) (C : List Cl) (out : List Int) (d : Nd) : List Int := out ++ [stepV S C (fun p => out.getD p.toNat 0) d]
/-- The values of all terms, in order. -/
def vals (S : List Int) (C : List Cl) (L : List Nd) : List Int := L.foldl (valsF S C) []
def val (S : List Int) (C : List Cl) (L : List Nd) (x : Int) : Int := (vals S C L).getD x.toNat 0
theorem vals_snoc {S : List Int} {C : List Cl} {L : List Nd} {d : Nd} : vals S C (L ++ [d]) = vals S C L ++ [stepV S C (fun p => (vals S C L).getD p.toNat 0) d] := by simp [vals, valsF]
theorem valsF_len (S : List Int) (C : List Cl) : ∀ (L : List Nd) (o : List Int), (L.foldl (valsF S C) o).length = o.length + L.length
  | [], o => by simp
  | d :: L, o => by rw [List.foldl_cons, valsF_len S C L]; simp [valsF]; omega
theorem vals_len {S : List Int} {C : List Cl} {L : List Nd} : (vals S C L).length = L.length := by simpa [vals] using valsF_len S C L []
theorem valsF_app (S : List Int) (C : List Cl) : ∀ (L : List Nd) (o : List Int), ∃ r, L.foldl (valsF S C) o = o ++ r
  | [], o => ⟨[], by simp⟩
  | d :: L, o => by
    obtain ⟨r, hr⟩ := valsF_app S C L (valsF S C o d)
    exact ⟨_, by rw [List.foldl_cons, hr, valsF, List.append_assoc]⟩
theorem getD_app_l {l r : List Int} {i : Nat} (h : i < l.length) : (l ++ r).getD i 0 = l.getD i 0 := by
  rw [List.getD_eq_getElem?_getD, List.getD_eq_getElem?_getD, List.getElem?_append_left h]
theorem getD_app_r {l : List Int} {x : Int} {i : Nat} (h : l.length = i) : (l ++ [x]).getD i 0 = x := by
  rw [List.getD_eq_getElem?_getD, List.getElem?_append_right (by omega), h, Nat.sub_self]; rfl
theorem vals_pre {S : List Int} {C : List Cl} {L : List Nd} {n i : Nat} (hi : i < n) (hn : n ≤ L.length) : (vals S C (L.take n)).getD i 0 = (vals S C L).getD i 0 := by
  obtain ⟨r, hr⟩ := valsF_app S C (L.drop n) (vals S C (L.take n))
  have e : vals S C L = vals S C (L.take n) ++ r := by
    rw [← hr]
    conv => lhs; rw [← List.take_append_drop n L]
    rw [vals, vals, List.foldl_append]
  rw [e, getD_app_l]
  rw [vals_len, List.length_take]
  omega
theorem nd_get {L : List Nd} {x : Int} (h0 : 0 ≤ x) (h1 : x < L.length) : L[x.toNat]? = some (nd L x) := by
  unfold nd
  rw [List.getD_eq_getElem?_getD, List.getElem?_eq_getElem (by omega)]
  rfl
theorem val_eq {S : List Int} {C : List Cl} {L : List Nd} (hwf : gwf L) (hfit : fit L) {x : Int} (h0 : 0 ≤ x) (h1 : x < L.length) : val S C L x = stepV S C (val S C L) (nd L x) := by
  have hg := nd_get h0 h1
  have ht := take_snoc2 hg
  have hl : (vals S C (L.take x.toNat)).length = x.toNat := by rw [vals_len, List.length_take]; omega
  have e : val S C L x = (vals S C (L.take (x.toNat + 1))).getD x.toNat 0 := by rw [vals_pre (by omega) (by omega)]; rfl
  rw [e, ht, vals_snoc, getD_app_r hl]
  refine stepV_congr (hfit x h0 h1).1 fun p hp => ?_
  have := hwf _ _ hg p hp
  exact vals_pre (by omega) (by omega)
theorem stepV_i64 {S : List Int} {C : List Cl} {v : Int → Int} {d : Nd} (hS : ∀ x ∈ S, i64 x) (hC : ∀ c ∈ C, i64 c.n) (hv : ∀ p, i64 (v p)) (hd : i64 d.n) : i64 (stepV S C v d) := by
  refine ite_i64 hd (ite_i64 ?_ (ite_i64 ?_ (doW_i64 (hv _) (hv _))))
  · unfold symE
    refine ite_i64 (by unfold i64; omega) ?_
    rw [List.getD_eq_getElem?_getD]
    cases h : S[d.n.toNat]? with
    | none => simp [i64]
    | some x => exact hS x (List.mem_of_getElem? h)
  · unfold cellE
    refine ite_i64 (by unfold i64; omega) ?_
    cases h : C[(fstC (isC d.a d.n (v d.y)) C 0).toNat]? with
    | none => simp [i64]
    | some c => exact hC c (List.mem_of_getElem? h)
theorem getD_i64 {l : List Int} (h : ∀ x ∈ l, i64 x) (n : Nat) : i64 (l.getD n 0) := by
  rw [List.getD_eq_getElem?_getD]
  cases e : l[n]? with
  | none => simp [i64]
  | some x => exact h x (List.mem_of_getElem? e)
theorem valsF_i64 {S : List Int} {C : List Cl} (hS : ∀ x ∈ S, i64 x) (hC : ∀ c ∈ C, i64 c.n) : ∀ (L : List Nd), (∀ d ∈ L, i64 d.n) → ∀ (o : List Int), (∀ x ∈ o, i64 x) → ∀ x ∈ L.foldl (valsF S C) o, i64 x
  | [], _, o, ho => ho
  | d :: L, hL, o, ho => by
    rw [List.foldl_cons]
    refine valsF_i64 hS hC L (fun d hd => hL d (by simp [hd])) _ fun x hx => ?_
    rcases List.mem_append.1 hx with h | h
    · exact ho x h
    · rw [List.mem_singleton.1 h]
      exact stepV_i64 hS hC (fun p => getD_i64 ho _) (hL d (by simp))
theorem val_i64 {S : List Int} {C : List Cl} {L : List Nd} (hS : ∀ x ∈ S, i64 x) (hC : ∀ c ∈ C, i64 c.n) (hL : ∀ d ∈ L, i64 d.n) (x : Int) : i64 (val S C L x) :=
  getD_i64 (valsF_i64 hS hC L hL [] (by simp)) _
theorem okN_i64 {L : List Nd} (hok : okN L) : ∀ d ∈ L, i64 d.n := fun d hd => by
  obtain ⟨i, hi⟩ := List.mem_iff_getElem?.1 hd
  exact (hok i d hi).1
theorem kAt_snoc {K : List (Int × Int)} {u v x : Int} : kAt (K ++ [(u, v)]) x = (kAt K x).or (if x = u then some v else none) := by
  simp only [kAt, List.find?_append]
  cases h : K.find? fun p => decide (x = p.1) with
  | some p => simp
  | none => by_cases hx : x = u <;> simp [hx]
theorem mem_take_of_lt {U : List Int} (hs : U.Pairwise (· < ·)) {n : Nat} {u p : Int} (hu : U[n]? = some u) (hp : p ∈ U) (hlt : p < u) : p ∈ U.take n := by
  obtain ⟨j, hj⟩ := List.mem_iff_getElem?.1 hp
  rcases Nat.lt_or_ge j n with h | h
  · exact List.mem_iff_getElem?.2 ⟨j, by rw [List.getElem?_take, if_pos h, hj]⟩
  · exfalso
    rcases Nat.lt_or_eq_of_le h with h | h
    · have h1 := (List.getElem?_eq_some_iff.1 hu)
      have h2 := (List.getElem?_eq_some_iff.1 hj)
      have := List.pairwise_iff_getElem.1 hs n j h1.1 h2.1 h
      rw [h1.2, h2.2] at this
      omega
    · subst h
      rw [hu] at hj
      cases hj
      omega
theorem knows_val {S : List Int} {C : List Cl} {L : List Nd} (hwf : gwf L) (hfit : fit L) {U : List Int} (hr : ∀ x ∈ U, 0 ≤ x ∧ x < L.length) (hs : U.Pairwise (· < ·)) (hc : ∀ x ∈ U, ∀ p ∈ pts L x, p ∈ U) :
    ∀ n, n ≤ U.length → ∀ x, kAt (knows S C L (U.take n)) x = if x ∈ U.take n then some (val S C L x) else none
  | 0, _, x => by simp [knows, kAt]
  | n + 1, hn, x => by
    obtain ⟨u, hu⟩ : ∃ u, U[n]? = some u := ⟨_, List.getElem?_eq_getElem (by omega)⟩
    have ih := knows_val (S := S) (C := C) hwf hfit hr hs hc n (by omega)
    have hum := List.mem_of_getElem? hu
    obtain ⟨h0, h1⟩ := hr u hum
    have hv : oneV S C (knows S C L (U.take n)) (nd L u) = val S C L u := by
      rw [val_eq hwf hfit h0 h1]
      refine stepV_congr (v := fun p => (kAt (knows S C L (U.take n)) p).getD 0) (hfit u h0 h1).1 fun p hp => ?_
      have hpl := pts_lt hwf h0 h1 p hp
      have hpm : p ∈ U.take n := mem_take_of_lt hs hu (hc u hum p hp) hpl.2
      show (kAt (knows S C L (U.take n)) p).getD 0 = _
      rw [ih p, if_pos hpm]
      rfl
    rw [take_snoc2 hu, knows_snoc, kAt_snoc, ih, hv]
    by_cases hx : x ∈ U.take n
    · simp [hx]
    · by_cases hxu : x = u
      · subst hxu; simp [hx]
      · simp [hx, hxu]
theorem uses_mem {L : List Nd} (hwf : gwf L) {ids : List Int} {x : Int} : x ∈ usesL L ids ↔ ∃ r ∈ ids, (0 ≤ r ∧ r < L.length) ∧ x ∈ usesL L [r] := by
  rw [mem_uses, mem_walks hwf ids [] (by simp)]
  simp
theorem uses_closedL {L : List Nd} (hwf : gwf L) {ids : List Int} {x p : Int} (hx : x ∈ usesL L ids) (hp : p ∈ pts L x) : p ∈ usesL L ids := by
  rw [uses_mem hwf] at hx ⊢
  obtain ⟨r, h1, h2, h3⟩ := hx
  exact ⟨r, h1, h2, uses_closed hwf h3 hp⟩
theorem knows_uses {S : List Int} {C : List Cl} {L : List Nd} (hwf : gwf L) (hfit : fit L) (ids : List Int) {x : Int} (hx : x ∈ ids) :
    kAt (knows S C L (usesL L ids)) x = if 0 ≤ x ∧ x < L.length then some (val S C L x) else none := by
  have h := knows_val (S := S) (C := C) hwf hfit (U := usesL L ids) uses_ok uses_sorted (fun x hx p hp => uses_closedL hwf hx hp) _ (Nat.le_refl _) x
  rw [List.take_length] at h
  rw [h]
  by_cases hr : 0 ≤ x ∧ x < L.length
  · rw [if_pos hr, if_pos ((uses_mem hwf).2 ⟨x, hx, hr, uses_self hwf hr.1 hr.2⟩)]
  · rw [if_neg hr, if_neg fun hm => hr (uses_ok x hm)]
/-- A value hangs on what is told of the terms behind it, on nothing else. -/
theorem val_agree {S S' : List Int} {C C' : List Cl} {L : List Nd} (hwf : gwf L) (hfit : fit L) {id : Int} (h0 : 0 ≤ id) (h1 : id < L.length)
    (hs : ∀ x ∈ usesL L [id], (nd L x).kind = 2 → symE S (nd L x).n = symE S' (nd L x).n)
    (hc : ∀ x ∈ usesL L [id], (nd L x).kind = 3 → ∀ y, cellE C (nd L x).a (nd L x).n y = cellE C' (nd L x).a (nd L x).n y) : val S C L id = val S' C' L id := by
  suffices h : ∀ (f : Nat) (x : Int), x.toNat < f → x ∈ usesL L [id] → val S C L x = val S' C' L x from h (id.toNat + 1) id (by omega) (uses_self hwf h0 h1)
  intro f
  induction f with
  | zero => intro x h; omega
  | succ f ih =>
    intro x hx hm
    obtain ⟨x0, x1⟩ := uses_ok x hm
    rw [val_eq hwf hfit x0 x1, val_eq hwf hfit x0 x1]
    refine stepV_same (hfit x x0 x1).1 (fun p hp => ?_) (hs x hm) (hc x hm)
    have := pts_lt hwf x0 x1 p hp
    exact ih p (by omega) (uses_closed hwf hm hp)
theorem mem_symS {L : List Nd} {U : List Int} {k : Int} : k ∈ symS L U ↔ ∃ x ∈ U, (nd L x).kind = 2 ∧ (nd L x).n = k := by
  simp only [symS, List.mem_mergeSort, rawS, List.mem_filterMap, symOf]
  constructor
  · rintro ⟨x, hx, h⟩
    split at h
    · rename_i hk; cases h; exact ⟨x, hx, hk, rfl⟩
    · cases h
  · rintro ⟨x, hx, hk, rfl⟩
    exact ⟨x, hx, by rw [if_pos hk]⟩
theorem mem_cellS {L : List Nd} {U : List Int} {k : Int} : k ∈ cellS L U ↔ k ∈ U ∧ (nd L k).kind = 3 := by simp [cellS]
end Go.Proofs.YtfligilbnpcnaaaGreatDoor

