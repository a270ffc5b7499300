/- What terms need: the document's. -/
import Derived.Test.YtpdeoalocejodaaGreatDoorJ2
/- What terms need: the document's. -/
namespace Go.Proofs.YtpdeoalocejodaaGreatDoor
open Go Go.Am
set_option maxRecDepth 100000
set_option maxHeartbeats 1000000
variable {P : Program} {G : Nat → Option V}
end Go.Proofs.YtpdeoalocejodaaGreatDoor
/- What terms need: the document's. -/
namespace Go.Proofs.YtpdeoalocejodaaGreatDoor
open Go Go.Am
set_option maxRecDepth 100000
set_option maxHeartbeats 1000000
variable {P : Program} {G : Nat → Option V}
end Go.Proofs.YtpdeoalocejodaaGreatDoor
/- What terms need: the document's contract. -/
namespace Go.Proofs.YtpdeoalocejodaaGreatDoor
open Go Go.Am
set_option maxRecDepth 100000
set_option maxHeartbeats 1000000
variable {P : Program} {G : Nat → Option V}
end Go.Proofs.YtpdeoalocejodaaGreatDoor
/- The law ValueNeeds. -/
namespace Go.Proofs.YtpdeoalocejodaaGreatDoor
open Go Go.Am
set_option maxRecDepth 100000
set_option maxHeartbeats 1000000
variable {P : Program} {G : Nat → Option V}
theorem nints_get {l : List Int} {i : Nat} {x : Int} (h : l[i]? = some x) : (nints l).getD i .any = .int .i64 x := by simp [nints, List.getD_eq_getElem?_getD, h]
end Go.Proofs.YtpdeoalocejodaaGreatDoor
/- What symbols are known to be. -/
namespace Go.Proofs.YtpdeoalocejodaaGreatDoor
open Go Go.Am
set_option maxRecDepth 100000
set_option maxHeartbeats 1000000
variable {P : Program} {G : Nat → Option V}
structure Cl where
  arr : Int
  ver : Int
  at' : Int
  n : Int
def Cl.v (c : Cl) : V := .agg [.int .i64 c.arr, .int .i64 c.ver, .int .i64 c.at', .int .i64 c.n]
def symE (S : List Int) (k : Int) : Int := if k < 0 ∨ (S.length : Int) ≤ k then 0 else S.getD k.toNat 0
end Go.Proofs.YtpdeoalocejodaaGreatDoor
/- What a cell is known to be. -/
namespace Go.Proofs.YtpdeoalocejodaaGreatDoor
open Go Go.Am
set_option maxRecDepth 100000
set_option maxHeartbeats 1000000
variable {P : Program} {G : Nat → Option V}
def fstC (p : Cl → Bool) : List Cl → Nat → Int
  | [], _ => -1
  | n :: c, i => if p n then i else fstC p c (i + 1)
theorem cells_get {l : List Cl} {i : Nat} {x : Cl} (h : l[i]? = some x) : (l.map Cl.v).getD i .any = x.v := by simp [List.getD_eq_getElem?_getD, h]
def isC (a w x : Int) (c : Cl) : Bool := decide (c.arr = a ∧ c.ver = w ∧ c.at' = x)
end Go.Proofs.YtpdeoalocejodaaGreatDoor
/- What a cell is known to be: the program's Env.Cell. -/
namespace Go.Proofs.YtpdeoalocejodaaGreatDoor
open Go Go.Am
set_option maxRecDepth 100000
set_option maxHeartbeats 1000000
variable {P : Program} {G : Nat → Option V}
def cellE (C : List Cl) (a w x : Int) : Int := if fstC (isC a w x) C 0 < 0 then 0 else ((C[(fstC (isC a w x) C 0).toNat]?).map Cl.n).getD 0
end Go.Proofs.YtpdeoalocejodaaGreatDoor
/- One term's value: the closure of the program's All. -/
namespace Go.Proofs.YtpdeoalocejodaaGreatDoor
open Go Go.Am
set_option maxRecDepth 100000
set_option maxHeartbeats 1000000
variable {P : Program} {G : Nat → Option V}
def kAt (K : List (Int × Int)) (x : Int) : Option Int := (K.find? fun p => decide (x = p.1)).map (·.2)
theorem ite_i64 {c : Prop} [Decidable c] {x y : Int} (h1 : i64 x) (h2 : i64 y) : i64 (if c then x else y) := by split <;> assumption
theorem doW_i64 {op a b : Int} (ha : i64 a) (hb : i64 b) : i64 (doW op a b) := by
  have one (c : Prop) [Decidable c] : i64 (if c then 1 else 0) := by unfold i64; split <;> omega
  have hr : i64 (remS a b) := by
    unfold remS
    split
    · exact ha
    · split
      · unfold i64; omega
      · have h1 := Int.natAbs_tmod a b
        have h2 : (a.tmod b).natAbs ≤ a.natAbs := by rw [h1]; exact Nat.mod_le _ _
        unfold i64 at *
        by_cases h : 0 ≤ a
        · have := Int.tmod_nonneg b h
          omega
        · have := Int.tmod_nonneg b (a := -a) (by omega)
          rw [Int.neg_tmod] at this
          omega
  have hs : i64 (a.fdiv (2 ^ min (andI .i64 b 63).toNat 64)) := by
    have hp : (0 : Int) < 2 ^ min (andI .i64 b 63).toNat 64 := Int.pow_pos (by omega)
    generalize (2 : Int) ^ min (andI .i64 b 63).toNat 64 = m at hp
    rw [Int.fdiv_eq_ediv_of_nonneg _ (by omega)]
    unfold i64 at *
    have h1 := Int.ediv_le_ediv hp (a := a) (b := 9223372036854775807) (by omega)
    have h2 := Int.ediv_le_ediv hp (a := -9223372036854775808) (b := a) (by omega)
    have h3 : (9223372036854775807 : Int) / m ≤ 9223372036854775807 := Int.ediv_le_self _ (by omega)
    have h4 : -9223372036854775808 ≤ (-9223372036854775808 : Int) / m := by
      rw [Int.le_ediv_iff_mul_le hp]
      omega
    omega
  have hdiv : i64 (divS a b) := ite_i64 (by unfold i64; omega) (ite_i64 (wrap_rg _) (wrap_rg _))
  have hdn : i64 (divN a b) := ite_i64 (by unfold i64; omega) (wrap_rg _)
  have hrn : i64 (remN a b) := ite_i64 ha (wrap_rg _)
  have hand : i64 (andI .i64 a b) := wrap_rg _
  have hor : i64 (orI .i64 a b) := wrap_rg _
  have hxor : i64 (xorI .i64 a b) := wrap_rg _
  exact ite_i64 (wrap_rg _) (ite_i64 (wrap_rg _) (ite_i64 (wrap_rg _) (ite_i64 hdiv (ite_i64 hr (ite_i64 hdn (ite_i64 hrn (ite_i64 hand (ite_i64 hor (ite_i64 hxor (ite_i64 (wrap_rg _) (ite_i64 (wrap_rg _) (ite_i64 hs (ite_i64 (one _) (ite_i64 (one _) (ite_i64 (one _) (by unfold i64; omega))))))))))))))))
end Go.Proofs.YtpdeoalocejodaaGreatDoor
/- One term's value: the closure of the program's All. -/
namespace Go.Proofs.YtpdeoalocejodaaGreatDoor
open Go Go.Am
set_option maxRecDepth 100000
set_option maxHeartbeats 1000000
variable {P : Program} {G : Nat → Option V}
def oneV (S : List Int) (C : List Cl) (K : List (Int × Int)) (d : Nd) : Int :=
  if d.kind = 1 then d.n else if d.kind = 2 then symE S d.n else if d.kind = 3 then cellE C d.a d.n ((kAt K d.y).getD 0) else doW d.op ((kAt K d.x).getD 0) ((kAt K d.y).getD 0)
end Go.Proofs.YtpdeoalocejodaaGreatDoor
/- The values of terms: the loop of the program's All. -/
namespace Go.Proofs.YtpdeoalocejodaaGreatDoor
open Go Go.Am
set_option maxRecDepth 100000
set_option maxHeartbeats 1000000
variable {P : Program} {G : Nat → Option V}
end Go.Proofs.YtpdeoalocejodaaGreatDoor
/- The values of terms: a round of the first loop of the program's All. -/
namespace Go.Proofs.YtpdeoalocejodaaGreatDoor
open Go Go.Am
set_option maxRecDepth 100000
set_option maxHeartbeats 1000000
variable {P : Program} {G : Nat → Option V}
def fit (L : List Nd) : Prop := ∀ x : Int, 0 ≤ x → x < L.length → ((nd L x).kind = 1 ∨ (nd L x).kind = 2 ∨ (nd L x).kind = 3 ∨ (nd L x).kind = 4) ∧ (0 ≤ (nd L x).op ∧ (nd L x).op ≤ 255)
end Go.Proofs.YtpdeoalocejodaaGreatDoor
/- The values of terms: what is asked of the terms. -/
namespace Go.Proofs.YtpdeoalocejodaaGreatDoor
open Go Go.Am
set_option maxRecDepth 100000
set_option maxHeartbeats 1000000
variable {P : Program} {G : Nat → Option V}
theorem fit_ok {L : List Nd} (hok : okN L) : fit L := by
  intro x h0 h1
  obtain ⟨d, hd⟩ : ∃ d, L[x.toNat]? = some d := ⟨_, List.getElem?_eq_getElem (by omega)⟩
  have e : nd L x = d := by simp [nd, List.getD_eq_getElem?_getD, hd]
  rw [e]
  obtain ⟨hp, h2, hk⟩ := may_parts (hok _ d hd).2.2
  exact ⟨hk, by omega, by omega⟩
theorem nd_i64 {L : List Nd} (hok : okN L) (x : Int) : i64 (nd L x).n := by
  unfold nd
  rw [List.getD_eq_getElem?_getD]
  cases h : L[x.toNat]? with
  | none => simp [i64, zeroNd]
  | some d => exact (hok _ d h).1
end Go.Proofs.YtpdeoalocejodaaGreatDoor
/- The values of terms: a round of the second loop of the program's All. -/
namespace Go.Proofs.YtpdeoalocejodaaGreatDoor
open Go Go.Am
set_option maxRecDepth 100000
set_option maxHeartbeats 1000000
variable {P : Program} {G : Nat → Option V}
end Go.Proofs.YtpdeoalocejodaaGreatDoor
/- The values of terms: a round of the second loop of the program's All. -/
namespace Go.Proofs.YtpdeoalocejodaaGreatDoor
open Go Go.Am
set_option maxRecDepth 100000
set_option maxHeartbeats 1000000
variable {P : Program} {G : Nat → Option V}
end Go.Proofs.YtpdeoalocejodaaGreatDoor
/- The values of terms: the program's All. -/
namespace Go.Proofs.YtpdeoalocejodaaGreatDoor
open Go Go.Am
set_option maxRecDepth 100000
set_option maxHeartbeats 1000000
variable {P : Program} {G : Nat → Option V}
end Go.Proofs.YtpdeoalocejodaaGreatDoor
/- The value of each term by definition; what the program's map holds is that. -/
namespace Go.Proofs.YtpdeoalocejodaaGreatDoor
open Go Go.Am
set_option maxRecDepth 100000
set_option maxHeartbeats 1000000
variable {P : Program} {G : Nat → Option V}
def stepV (S : List Int) (C : List Cl) (v : Int → Int) (d : Nd) : Int :=
  if d.kind = 1 then d.n else if d.kind = 2 then symE S d.n else if d.kind = 3 then cellE C d.a d.n (v d.y) else doW d.op (v d.x) (v d.y)
theorem stepV_same {S S' : List Int} {C C' : List Cl} {v v' : Int → Int} {d : Nd} (hk : d.kind = 1 ∨ d.kind = 2 ∨ d.kind = 3 ∨ d.kind = 4) (h : ∀ p ∈ d.parts, v p = v' p)
    (hs : d.kind = 2 → symE S d.n = symE S' d.n) (hc : d.kind = 3 → ∀ y, cellE C d.a d.n y = cellE C' d.a d.n y) : stepV S C v d = stepV S' C' v' d := by
  unfold stepV
  rcases hk with k | k | k | k
  · rw [if_pos k, if_pos k]
  · simp [k, hs k]
  · have := h d.y (by simp [Nd.parts, k])
    simp [k, this, hc k]
  · have h1 := h d.x (by simp [Nd.parts, k])
    have h2 := h d.y (by simp [Nd.parts, k])
    simp [k, h1, h2]
theorem stepV_congr {S : List Int} {C : List Cl} {v v' : Int → Int} {d : Nd} (hk : d.kind = 1 ∨ d.kind = 2 ∨ d.kind = 3 ∨ d.kind = 4) (h : ∀ p ∈ d.parts, v p = v' p) : stepV S C v d = stepV S C v' d :=
  stepV_same hk h (fun _ => rfl) (fun _ _ => rfl)
def valsF (S : List Int) (C : List Cl) (out : List Int) (d : Nd) : List Int := out ++ [stepV S C (fun p => out.getD p.toNat 0) d]
def vals (S : List Int) (C : List Cl) (L : List Nd) : List Int := L.foldl (valsF S C) []
def val (S : List Int) (C : List Cl) (L : List Nd) (x : Int) : Int := (vals S C L).getD x.toNat 0
theorem vals_snoc {S : List Int} {C : List Cl} {L : List Nd} {d : Nd} : vals S C (L ++ [d]) = vals S C L ++ [stepV S C (fun p => (vals S C L).getD p.toNat 0) d] := by simp [vals, valsF]
theorem valsF_len (S : List Int) (C : List Cl) : ∀ (L : List Nd) (o : List Int), (L.foldl (valsF S C) o).length = o.length + L.length
  | [], o => by simp
  | d :: L, o => by rw [List.foldl_cons, valsF_len S C L]; simp [valsF]; omega
theorem vals_len {S : List Int} {C : List Cl} {L : List Nd} : (vals S C L).length = L.length := by simpa [vals] using valsF_len S C L []
theorem valsF_app (S : List Int) (C : List Cl) : ∀ (L : List Nd) (o : List Int), ∃ r, L.foldl (valsF S C) o = o ++ r
  | [], o => ⟨[], by simp⟩
  | d :: L, o => by
    obtain ⟨r, hr⟩ := valsF_app S C L (valsF S C o d)
    exact ⟨_, by rw [List.foldl_cons, hr, valsF, List.append_assoc]⟩
theorem getD_app_l {l r : List Int} {i : Nat} (h : i < l.length) : (l ++ r).getD i 0 = l.getD i 0 := by
  rw [List.getD_eq_getElem?_getD, List.getD_eq_getElem?_getD, List.getElem?_append_left h]
theorem getD_app_r {l : List Int} {x : Int} {i : Nat} (h : l.length = i) : (l ++ [x]).getD i 0 = x := by
  rw [List.getD_eq_getElem?_getD, List.getElem?_append_right (by omega), h, Nat.sub_self]; rfl
theorem vals_pre {S : List Int} {C : List Cl} {L : List Nd} {n i : Nat} (hi : i < n) (hn : n ≤ L.length) : (vals S C (L.take n)).getD i 0 = (vals S C L).getD i 0 := by
  obtain ⟨r, hr⟩ := valsF_app S C (L.drop n) (vals S C (L.take n))
  have e : vals S C L = vals S C (L.take n) ++ r := by
    rw [← hr]
    conv => lhs; rw [← List.take_append_drop n L]
    rw [vals, vals, List.foldl_append]
  rw [e, getD_app_l]
  rw [vals_len, List.length_take]
  omega
theorem nd_get {L : List Nd} {x : Int} (h0 : 0 ≤ x) (h1 : x < L.length) : L[x.toNat]? = some (nd L x) := by
  unfold nd
  rw [List.getD_eq_getElem?_getD, List.getElem?_eq_getElem (by omega)]
  rfl
theorem val_eq {S : List Int} {C : List Cl} {L : List Nd} (hwf : gwf L) (hfit : fit L) {x : Int} (h0 : 0 ≤ x) (h1 : x < L.length) : val S C L x = stepV S C (val S C L) (nd L x) := by
  have hg := nd_get h0 h1
  have ht := take_snoc2 hg
  have hl : (vals S C (L.take x.toNat)).length = x.toNat := by rw [vals_len, List.length_take]; omega
  have e : val S C L x = (vals S C (L.take (x.toNat + 1))).getD x.toNat 0 := by rw [vals_pre (by omega) (by omega)]; rfl
  rw [e, ht, vals_snoc, getD_app_r hl]
  refine stepV_congr (hfit x h0 h1).1 fun p hp => ?_
  have := hwf _ _ hg p hp
  exact vals_pre (by omega) (by omega)
theorem stepV_i64 {S : List Int} {C : List Cl} {v : Int → Int} {d : Nd} (hS : ∀ x ∈ S, i64 x) (hC : ∀ c ∈ C, i64 c.n) (hv : ∀ p, i64 (v p)) (hd : i64 d.n) : i64 (stepV S C v d) := by
  refine ite_i64 hd (ite_i64 ?_ (ite_i64 ?_ (doW_i64 (hv _) (hv _))))
  · unfold symE
    refine ite_i64 (by unfold i64; omega) ?_
    rw [List.getD_eq_getElem?_getD]
    cases h : S[d.n.toNat]? with
    | none => simp [i64]
    | some x => exact hS x (List.mem_of_getElem? h)
  · unfold cellE
    refine ite_i64 (by unfold i64; omega) ?_
    cases h : C[(fstC (isC d.a d.n (v d.y)) C 0).toNat]? with
    | none => simp [i64]
    | some c => exact hC c (List.mem_of_getElem? h)
theorem getD_i64 {l : List Int} (h : ∀ x ∈ l, i64 x) (n : Nat) : i64 (l.getD n 0) := by
  rw [List.getD_eq_getElem?_getD]
  cases e : l[n]? with
  | none => simp [i64]
  | some x => exact h x (List.mem_of_getElem? e)
theorem valsF_i64 {S : List Int} {C : List Cl} (hS : ∀ x ∈ S, i64 x) (hC : ∀ c ∈ C, i64 c.n) : ∀ (L : List Nd), (∀ d ∈ L, i64 d.n) → ∀ (o : List Int), (∀ x ∈ o, i64 x) → ∀ x ∈ L.foldl (valsF S C) o, i64 x
  | [], _, o, ho => ho
  | d :: L, hL, o, ho => by
    rw [List.foldl_cons]
    refine valsF_i64 hS hC L (fun d hd => hL d (by simp [hd])) _ fun x hx => ?_
    rcases List.mem_append.1 hx with h | h
    · exact ho x h
    · rw [List.mem_singleton.1 h]
      exact stepV_i64 hS hC (fun p => getD_i64 ho _) (hL d (by simp))
theorem val_i64 {S : List Int} {C : List Cl} {L : List Nd} (hS : ∀ x ∈ S, i64 x) (hC : ∀ c ∈ C, i64 c.n) (hL : ∀ d ∈ L, i64 d.n) (x : Int) : i64 (val S C L x) :=
  getD_i64 (valsF_i64 hS hC L hL [] (by simp)) _
theorem okN_i64 {L : List Nd} (hok : okN L) : ∀ d ∈ L, i64 d.n := fun d hd => by
  obtain ⟨i, hi⟩ := List.mem_iff_getElem?.1 hd
  exact (hok i d hi).1
end Go.Proofs.YtpdeoalocejodaaGreatDoor
