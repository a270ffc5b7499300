/- What terms Ya: the document's. -/
import Derived.Test.YtpdeoalocejodaaGreatDoorJ2
open Nat renaming reduceEqDiff → rq, reduceAdd → rA, reduceLeDiff → rL, reduceLT → rT, zero_add → zA, le_refl → lR, zero_le → zL, add_zero → aZ
open List renaming length_cons → lC, length_nil → lN, take_succ_cons → tSq, length_append → lA, nil_append → nA, cons_append → cA, append_assoc → aA, take_nil → tN, take_zero → tZ, length_map → lM
open Bool renaming not_false → nF, not_true → nT
namespace Go.Proofs.YtpdeoalocejodaaGreatDoor
open Go Go.Am
set_option maxRecDepth 100000
variable {P : Program} {G : Nat → Option V}
set_option maxHeartbeats 1000000
theorem QeU {l : List Int} {i : Nat} {x : Int} (h : l[i]? = some x) : (Q7 l).getD i .any = .int .i64 x := by simp [Q7, List.getD_eq_getElem?_getD, h]
structure Cl where
 arr : Int
 ver : Int
 at' : Int
 n : Int
def Cl.v (c : Cl) : V := .agg [.int .i64 c.arr, .int .i64 c.ver, .int .i64 c.at', .int .i64 c.n]
def Qfc (S : List Int) (tS : Bool) (zC : Nat) (C : List Cl) (tC : Bool) : V := .agg [.lst 1 (Q7 S) tS, .lst zC (C.map Cl.v) tC]
def QvQ (S : List Int) (k : Int) : Int := if k < 0 ∨ (S.length : Int) ≤ k then 0 else S.getD k.toNat 0
theorem c_Sym (hT : Qj P tab) (S : List Int) (tS : Bool) (zC : Nat) (C : List Cl) (tC : Bool) (k : Int) : Pure P G Qe4 [Qfc S tS zC C tC, .int .i64 k] fun v => v = .int .i64 (QvQ S k) := by
 intro t
 refine Ql 0 (zL _) (Qx hT QeL (by simp [YI]) (Qs 14 ?_))
 by_cases h1 : k < 0
 ·have h1' : decide (k < 0) = true := by simpa using h1
  simp -implicitDefEqProofs (disch := omega) only [go_sem, ↓reduceIte, reduceCtorEq, rq, zA, decide_true, YI, Qrp, Qro, Qrn, Qrm, Qfc, QvQ, lN, nA, h1, true_or, and_true]
  iterate 9 (try (refine QI 4 ?_; simp -implicitDefEqProofs (disch := omega) only [go_sem, ↓reduceIte, reduceCtorEq, rq, zA, zL, lN, lC, and_true]))
 ·have h1' : decide (k < 0) = false := by simpa using h1
  by_cases h2 : (S.length : Int) ≤ k
  ·have h2' : decide ((S.length : Int) ≤ k) = true := by simpa using h2
   simp -implicitDefEqProofs (disch := omega) only [go_sem, ↓reduceIte, reduceCtorEq, rA, rq, rL, zA, aZ, decide_false, YI, Qrp, Qro, Qrn, Qrm, Qfc, QvQ, lN, lC, nA, h1, h2, or_true, true_implies, and_true]
   iterate 9 (try (refine QI 4 ?_; simp -implicitDefEqProofs (disch := omega) only [go_sem, ↓reduceIte, reduceCtorEq, rA, rq, zA, decide_true, zL, ge_iff_le, Xe, lN, lC, h2, and_true]))
  ·have h2' : decide ((S.length : Int) ≤ k) = false := by simpa using h2
   obtain ⟨x, hx⟩ : ∃ x, S[k.toNat]? = some x := ⟨_, List.getElem?_eq_getElem (by omega)⟩
   have hg := QeU hx
   have hg2 : S.getD k.toNat 0 = x := by simp [List.getD_eq_getElem?_getD, hx]
   simp -implicitDefEqProofs (disch := omega) only [go_sem, ↓reduceIte, reduceCtorEq, rA, rq, rL, zA, aZ, decide_false, YI, Qrp, Qro, Qrn, Qrm, Qfc, QvQ, lN, lC, nA, h1, h2, hg2, or_self, true_implies, and_true]
   iterate 9 (try (refine QI 4 ?_; simp -implicitDefEqProofs (disch := omega) only [go_sem, Qr, ↓reduceIte, reduceCtorEq, rA, rq, rL, zA, aZ, decide_false, lR, zL, ge_iff_le, Xe, lN, lC, h2, hg, true_implies, and_true]))
def TellsC (P : Program) (G : Nat → Option V) (base : Nat) (f : V) (o : List (Option Ob)) (p : Cl → Bool) : Prop :=
 ∀ t n, CV P G base f [n.v] ⟨t, o⟩ fun v σ => v = .bool (p n) ∧ ∃ t', t ≤ t' ∧ σ = ⟨t', o⟩
def QpQ (p : Cl → Bool) : List Cl → Nat → Int
 | [], _ => -1
 | n :: c, i => if p n then i else QpQ p c (i + 1)
theorem Qsl {p : Cl → Bool} : ∀ {c : List Cl} {i : Nat}, (∀ n ∈ c, p n = false) → QpQ p c i = -1
 | [], _, _ => rfl
 | n :: c, i, h => by rw [QpQ, h n (by simp), if_neg (by simp), Qsl fun m hm => h m (by simp [hm])]
theorem QwE {p : Cl → Bool} : ∀ {c : List Cl} {i k : Nat} {n : Cl}, (∀ m ∈ c.take k, p m = false) → c[k]? = some n → p n = true → QpQ p c i = ((i + k : Nat) : Int)
 | [], _, _, _, _, h, _ => by simp at h
 | m :: c, i, 0, n, _, h, hp => by simp at h; subst h; simp [QpQ, hp]
 | m :: c, i, k + 1, n, h, hk, hp => by
   rw [QpQ, h m (by simp), if_neg (by simp), QwE (k := k) (fun m hm => h m (by simp [hm])) (by simpa using hk) hp]
   congr 1; omega
theorem Qdb {l : List Cl} {i : Nat} {x : Cl} (h : l[i]? = some x) : (l.map Cl.v).getD i .any = x.v := by simp [List.getD_eq_getElem?_getD, h]
theorem Qzd (hT : Qj P tab) {base t : Nat} {o : List (Option Ob)} {f : V} {p : Cl → Bool} {c : List Cl} {z : Bool} (hp : TellsC P G base f o p) (hl : c.length ≤ 1000000) :
 C P G base XL [.lst 4 (c.map Cl.v) z, f] ⟨t, o⟩ fun v σ => v = .int .i64 (QpQ p c 0) ∧ ∃ t', t ≤ t' ∧ σ = ⟨t', o⟩ := by
 refine Qx hT XK (by simp [QF]) (Qs 1000 ?_)
 simp -implicitDefEqProofs (disch := omega) only [go_sem, ↓reduceIte, reduceCtorEq, rq, zA, QF, QzW, QzV, QzU, QzT, QzS, QzR, QzQ, QzP, lM]
 refine Qfv (fun m fr σ => ∃ i t', i ≤ c.length ∧ m = c.length - i ∧ (∀ n ∈ c.take i, p n = false) ∧ t ≤ t' ∧ Qt fr 0 = .lst 4 (c.map Cl.v) z ∧ Qt fr 1 = f ∧ Qt fr 7 = .int .i64 c.length ∧ Qt fr 8 = .int .i64 i ∧ σ = ⟨t', o⟩)
  (fun e fr σ => ∃ t', t ≤ t' ∧ σ = ⟨t', o⟩ ∧ ((e = .ret ∧ Qt fr 4 = .int .i64 (QpQ p c 0)) ∨ (e = .ex 0 ∧ QpQ p c 0 = -1)))
  (m0 := c.length) ⟨0, t, by omega, rfl, by simp, by omega, ?_⟩ (fun m fr σ hJ => ?_) (fun e fr σ hE => ?_)
 ·refine ya ?_
  simp
 ·obtain ⟨i, t', hi, rfl, hno, ht, f0, f1, f7, f8, rfl⟩ := hJ
  refine Qs 1000 ?_
  rcases Nat.lt_or_ge i c.length with hlt | hge
  ·obtain ⟨n, hni⟩ : ∃ n, c[i]? = some n := ⟨_, List.getElem?_eq_getElem hlt⟩
   have hD := Qdb hni
   have e2 := QvF hlt (by omega)
   simp -implicitDefEqProofs (disch := omega) only [go_sem, Qr, ↓reduceIte, reduceCtorEq, rA, rq, Nat.succ_ne_zero, zA, decide_true, lR, lM, f0, f1, f7, f8, hlt, hD, Cl.v, lC, lN, tSq, tZ]
   refine CV.use 1000 (hp t' n) fun v σ hv => ?_
   obtain ⟨rfl, t2, ht2, rfl⟩ := hv
   cases hpn : p n with
   | true =>
     refine ya ?_
     rw [QwE hno hni hpn]
     exact ⟨t2, by omega, rfl, by simp⟩
   | false =>
     simp -implicitDefEqProofs (disch := omega) only [go_sem, ↓reduceIte, rq, f8]
     refine ⟨c.length - (i + 1), _, _, by omega, Shift.refl _ _ _ _, i + 1, t2, by omega, rfl, fun m hm => ?_, by omega, ?_⟩
     ·rw [ZM hni] at hm
      simp at hm
      rcases hm with hm | rfl
      ·exact hno m hm
      ·exact hpn
     ·simp -implicitDefEqProofs (disch := omega) only [go_sem, ↓reduceIte, reduceCtorEq, rq, Nat.succ_ne_zero, f0, f1, f7, e2]
  ·have hi : i = c.length := by omega
   subst hi
   simp -implicitDefEqProofs (disch := omega) only [go_sem, ↓reduceIte, reduceCtorEq, rq, decide_false, f7, f8, Nat.lt_irrefl]
   rw [List.take_length] at hno
   exact ⟨t', ht, rfl, Qsl hno⟩
 ·obtain ⟨t', ht, rfl, hE⟩ := hE
  rcases hE with ⟨rfl, f4⟩ | ⟨rfl, hh⟩
  ·refine QI 1000 ?_
   simp -implicitDefEqProofs (disch := omega) only [go_sem, f4]
   exact ⟨t', ht, rfl⟩
  ·refine QI 1000 ?_
   simp -implicitDefEqProofs (disch := omega) only [go_sem, ↓reduceIte, hh]
   exact ⟨t', ht, rfl⟩
def isC (a w x : Int) (c : Cl) : Bool := decide (c.arr = a ∧ c.ver = w ∧ c.at' = x)
def eH (v0 v1 v2 v3 : Nat) (e : List V) (a w x : Int) : List (Option Ob) := [some (.arr v0 48 e), some (.arr v1 3 [.int .i64 a]), some (.arr v2 2 [.int .i64 w]), some (.arr v3 2 [.int .i64 x])]
theorem Qze (hT : Qj P tab) {v0 v1 v2 v3 t : Nat} {e : List V} {a w x : Int} (c : Cl) :
 C P G 0 QbK [c.v, .ptr 1 v1 0, .ptr 2 v2 0, .ptr 3 v3 0] ⟨t, eH v0 v1 v2 v3 e a w x⟩ fun v σ => v = .bool (isC a w x c) ∧ ∃ t', t ≤ t' ∧ σ = ⟨t', eH v0 v1 v2 v3 e a w x⟩ := by
 refine Ql 4 (zL _) (Qx hT QbD (by simp [XH]) (Qs 14 ?_))
 by_cases h1 : c.arr = a
 ·have h1' : decide (c.arr = a) = true := by simpa using h1
  by_cases h2 : c.ver = w
  ·have h2' : decide (c.ver = w) = true := by simpa using h2
   simp -implicitDefEqProofs (disch := omega) only [go_sem, ↓reduceIte, reduceCtorEq, rA, rq, rL, zA, aZ, lR, beq_self_eq_true, XH, Qrl, Qrk, eH, Cl.v, isC, lN, lC, nA, cA, true_implies, true_and, and_self, h1, h2]
   iterate 9 (try (refine QI 4 ?_; simp -implicitDefEqProofs (disch := omega) only [go_sem, ↓reduceIte, reduceCtorEq, rA, rq, rL, zA, lR, beq_self_eq_true, lN, lC, true_implies, true_and, and_true, and_self]))
   exact ⟨rfl, t + 1, by omega, rfl⟩
  ·have h2' : decide (c.ver = w) = false := by simpa using h2
   simp -implicitDefEqProofs (disch := omega) only [go_sem, ↓reduceIte, reduceCtorEq, rA, rq, rL, zA, aZ, decide_false, lR, beq_self_eq_true, XH, Qrl, Qrk, eH, Cl.v, isC, lN, lC, nA, cA, true_implies, false_and, and_false, and_self, h1, h2]
   iterate 9 (try (refine QI 4 ?_; simp -implicitDefEqProofs (disch := omega) only [go_sem, ↓reduceIte, reduceCtorEq, rA, rq, rL, zA, lR, lN, lC, not_false_eq_true, false_implies, true_implies, true_and, and_true, and_self, h2]))
   exact ⟨t + 1, by omega, rfl⟩
 ·have h1' : decide (c.arr = a) = false := by simpa using h1
  simp -implicitDefEqProofs (disch := omega) only [go_sem, ↓reduceIte, reduceCtorEq, rA, rq, rL, zA, aZ, decide_false, lR, XH, Qrl, Qrk, eH, Cl.v, isC, lN, lC, nA, cA, not_false_eq_true, false_implies, true_implies, true_and, false_and, and_self, h1]
  iterate 9 (try (refine QI 4 ?_; simp -implicitDefEqProofs (disch := omega) only [go_sem, ↓reduceIte, reduceCtorEq, rA, rq, rL, zA, lN, lC, true_and, and_true]))
  exact ⟨t + 1, by omega, rfl⟩
theorem QwD {p : Cl → Bool} : ∀ {c : List Cl} {i : Nat}, QpQ p c i = -1 ∨ ∃ k n, c[k]? = some n ∧ QpQ p c i = ((i + k : Nat) : Int)
 | [], _ => .inl rfl
 | n :: c, i => by
   unfold QpQ
   split
   ·exact .inr ⟨0, n, rfl, rfl⟩
   ·rcases QwD (p := p) (c := c) (i := i + 1) with h | ⟨k, m, h1, h2⟩
    ·exact .inl h
    ·exact .inr ⟨k + 1, m, by simpa using h1, by rw [h2]; congr 1; omega⟩
def Qju (C : List Cl) (a w x : Int) : Int := if QpQ (isC a w x) C 0 < 0 then 0 else ((C[(QpQ (isC a w x) C 0).toNat]?).map Cl.n).getD 0
theorem c_Cell (hT : Qj P tab) (S : List Int) (tS : Bool) (C' : List Cl) (hC : C'.length ≤ 1000000) (tC : Bool) (a w x : Int) : Pure P G Qd0 [Qfc S tS 4 C' tC, .int .i64 a, .int .i64 w, .int .i64 x] fun v => v = .int .i64 (Qju C' a w x) := by
 intro t
 refine Ql 0 (zL _) (Qx hT QdX (by simp [Zz]) (Qs 1000 ?_))
 simp -implicitDefEqProofs (disch := omega) only [go_sem, ↓reduceIte, reduceCtorEq, rA, rq, zA, lR, Zz, QBk, QBj, QBi, QBh, QBg, Qfc, lN, lC, nA, cA, true_implies, and_true]
 refine call hT XK (Qzd (p := isC a w x) (o := eH t (t + 1) (t + 1 + 1) (t + 1 + 1 + 1) [.lst 1 (Q7 S) tS, .lst 4 (C'.map Cl.v) tC] a w x) hT (fun t' n => CV.of hT QbD (Qze hT n)) hC) 1000 fun v σ hv => ?_
 obtain ⟨rfl, t2, ht2, rfl⟩ := hv
 rcases QwD (p := isC a w x) (c := C') (i := 0) with h | ⟨k, n, h1, h2⟩
 ·have e : Qju C' a w x = 0 := by rw [Qju, h]; rfl
  rw [h, e]
  simp -implicitDefEqProofs (disch := omega) only [go_sem, ↓reduceIte, reduceCtorEq, rA, rq, Int.reduceLT, zA, decide_true, zL, eH, lN, lC, and_true]
 ·have e : Qju C' a w x = n.n := by rw [Qju, h2, if_neg (by omega)]; simp [h1]
  have hD := Qdb h1
  have hlt := (List.getElem?_eq_some_iff.1 h1).1
  rw [h2, e]
  rw [zA]
  simp -implicitDefEqProofs (disch := omega) only [go_sem, Qr, ↓reduceIte, reduceCtorEq, rA, rq, zA, lR, zL, eH, lM, lN, lC, true_implies, true_and, and_true, hD, hlt, Cl.v]
  intro hk
  omega
def kEs (K : List (Int × Int)) : List (V × V) := K.map fun p => (.int .i64 p.1, .int .i64 p.2)
def kAt (K : List (Int × Int)) (x : Int) : Option Int := (K.find? fun p => decide (x = p.1)).map (·.2)
theorem Qow (x y : Int) : Qeg [.i] (.int .i64 x) (.int .i64 y) = decide (x = y) := by
 by_cases h : x = y
 ·subst h
  simp [Qeg, Qb8, V.cells, Qra]
 ·simp [Qeg, Qb8, V.cells, Qra, h]
theorem QjK (K : List (Int × Int)) (x : Int) : Qqq [.i] (.int .i64 x) (kEs K) = (kAt K x).map (V.int .i64) := by
 induction K with
 | nil => rfl
 | cons p K ih =>
   simp only [Qqq, kEs, kAt, List.map_cons, List.find?_cons, Qow] at ih ⊢
   by_cases h : x = p.1
   ·simp [h]
   ·simp only [h, decide_false]
    exact ih
theorem Qwq (x : Int) : QyK false [.i] (.int .i64 x) := ⟨rfl, by simp [Qb8, V.cells, Qra]⟩
theorem Qc2 (K : List (Int × Int)) (x : Int) : Qe9 false [.i] (.int .i64 x) (kEs K) := by
 refine ⟨Qwq x, fun p hp => ?_⟩
 obtain ⟨q, _, rfl⟩ := List.mem_map.1 hp
 exact ⟨rfl, by simp [Qb8, V.cells, Qra]⟩
theorem Xt {c : Prop} [Decidable c] {x y : Int} (h1 : i64 x) (h2 : i64 y) : i64 (if c then x else y) := by split <;> assumption
theorem QqU {op a b : Int} (ha : i64 a) (hb : i64 b) : i64 (doW op a b) := by
 have one (c : Prop) [Decidable c] : i64 (if c then 1 else 0) := by unfold i64; split <;> omega
 have hr : i64 (QpP a b) := by
  unfold QpP
  split
  ·exact ha
  ·split
   ·unfold i64; omega
   ·have h1 := Int.natAbs_tmod a b
    have h2 : (a.tmod b).natAbs ≤ a.natAbs := by rw [h1]; exact Nat.mod_le _ _
    unfold i64 at *
    by_cases h : 0 ≤ a
    ·have := Int.tmod_nonneg b h
     omega
    ·have := Int.tmod_nonneg b (a := -a) (by omega)
     rw [Int.neg_tmod] at this
     omega
 have hs : i64 (a.fdiv (2 ^ min (QaO .i64 b 63).toNat 64)) := by
  have hp : (0 : Int) < 2 ^ min (QaO .i64 b 63).toNat 64 := Int.pow_pos (by omega)
  generalize (2 : Int) ^ min (QaO .i64 b 63).toNat 64 = m at hp
  rw [Int.fdiv_eq_ediv_of_nonneg _ (by omega)]
  unfold i64 at *
  have h1 := Int.ediv_le_ediv hp (a := a) (b := 9223372036854775807) (by omega)
  have h2 := Int.ediv_le_ediv hp (a := -9223372036854775808) (b := a) (by omega)
  have h3 : (9223372036854775807 : Int) / m ≤ 9223372036854775807 := Int.ediv_le_self _ (by omega)
  have h4 : -9223372036854775808 ≤ (-9223372036854775808 : Int) / m := by
   rw [Int.le_ediv_iff_mul_le hp]
   omega
  omega
 have hdiv : i64 (Qw4 a b) := Xt (by unfold i64; omega) (Xt (Qq _) (Qq _))
 have hdn : i64 (divN a b) := Xt (by unfold i64; omega) (Qq _)
 have hrn : i64 (QrX a b) := Xt ha (Qq _)
 have hand : i64 (QaO .i64 a b) := Qq _
 have hor : i64 (orI .i64 a b) := Qq _
 have hxor : i64 (QsJ .i64 a b) := Qq _
 exact Xt (Qq _) (Xt (Qq _) (Xt (Qq _) (Xt hdiv (Xt hr (Xt hdn (Xt hrn (Xt hand (Xt hor (Xt hxor (Xt (Qq _) (Xt (Qq _) (Xt hs (Xt (one _) (Xt (one _) (Xt (one _) (by unfold i64; omega))))))))))))))))
def Qi3 (S : List Int) (C : List Cl) (K : List (Int × Int)) (d : Nd) : Int :=
 if d.kind = 1 then d.n else if d.kind = 2 then QvQ S d.n else if d.kind = 3 then Qju C d.a d.n ((kAt K d.y).getD 0) else doW d.op ((kAt K d.x).getD 0) ((kAt K d.y).getD 0)
def QhW (ve vm vk : Nat) (S : List Int) (tS : Bool) (C : List Cl) (tC : Bool) (K : List (Int × Int)) : List (Option Ob) :=
 [some (.arr ve 48 [.lst 1 (Q7 S) tS, .lst 4 (C.map Cl.v) tC]), some (.map vm (kEs K)), some (.arr vk 109 [.mp 6 vm])]
theorem QyL {fmt : Int → List UInt8} {v0 v1 v2 v3 v4 : Nat} {L : List Nd} {ex : List (Option Ob)} {x0 x1 x2 x3 : Option Ob} : (kG fmt v0 v1 v2 v3 v4 L ++ x0 :: x1 :: x2 :: x3 :: ex).take 9 = kG fmt v0 v1 v2 v3 v4 L ++ [x0, x1, x2, x3] := rfl
theorem getD_map (o : Option Int) : (o.map (V.int .i64)).getD (.int .i64 0) = .int .i64 (o.getD 0) := by cases o <;> rfl
theorem Qmq {K : List (Int × Int)} (hK : ∀ p ∈ K, i64 p.2) (x : Int) : i64 ((kAt K x).getD 0) := by
 unfold kAt
 cases h : K.find? fun p => decide (x = p.1) with
 | none => simp [i64]
 | some p => simpa using hK p (List.mem_of_find?_eq_some h)
theorem c_One {b : Nat} (hb : b ≤ 9) (hT : Qj P tab) {fmt : Int → List UInt8} {v0 v1 v2 v3 v4 ve vm vk t : Nat} {L : List Nd} {y8 : Option Ob} (S : List Int) (tS : Bool) (C' : List Cl) (hC : C'.length ≤ 1000000) (tC : Bool) (K : List (Int × Int)) (hK : ∀ p ∈ K, i64 p.2) (d : Nd) (hk : d.kind = 1 ∨ d.kind = 2 ∨ d.kind = 3 ∨ d.kind = 4) (ho : 0 ≤ d.op ∧ d.op ≤ 255) :
 C P G b Qa1 [.agg d.cells, .ptr 5 ve 0, .ptr 7 vk 0] ⟨t, kG fmt v0 v1 v2 v3 v4 L ++ (QhW ve vm vk S tS C' tC K ++ [y8])⟩ fun v σ => v = .int .i64 (Qi3 S C' K d) ∧ ∃ t', t ≤ t' ∧ σ = ⟨t', kG fmt v0 v1 v2 v3 v4 L ++ (QhW ve vm vk S tS C' tC K ++ [y8])⟩ := by
 refine Ql 9 hb (Qx hT Qf9 (by simp [YH]) (Qs 1000 ?_))
 rcases hk with k | k | k | k
 ·have e : Qi3 S C' K d = d.n := by rw [Qi3, if_pos k]
  rw [e]
  simp -implicitDefEqProofs (disch := omega) only [go_sem, ↓reduceIte, reduceCtorEq, rA, rq, rL, zA, aZ, beq_self_eq_true, YH, QnG, QnF, QnE, QnD, QnC, QnB, QnA, Qnz, Qny, Nd.cells, Qcp, QkE, kG_9, QyL, QhW, lN, lC, nA, cA, true_implies, true_and, and_true, k]
  exact ⟨t + 1, by omega, rfl⟩
 ·have e : Qi3 S C' K d = QvQ S d.n := by rw [Qi3, if_neg (by omega), if_pos k]
  rw [e]
  simp -implicitDefEqProofs (disch := omega) only [go_sem, ↓reduceIte, reduceCtorEq, rA, rq, rL, zA, aZ, lR, beq_self_eq_true, YH, QnG, QnF, QnE, QnD, QnC, QnB, QnA, Qnz, Qny, Nd.cells, Qcp, QkE, kG_5, kG_9, QhW, lN, lC, nA, cA, false_implies, true_implies, and_true, k, Int.reduceBEq]
  refine Qd hT QeL (c_Sym hT S tS 4 C' tC d.n) (by simp [Qv, Qn]) 1000 ?_
  refine yI ?_
  exact ⟨t + 1, by omega, rfl⟩
 ·have e : Qi3 S C' K d = Qju C' d.a d.n ((kAt K d.y).getD 0) := by rw [Qi3, if_neg (by omega), if_neg (by omega), if_pos k]
  rw [e]
  simp -implicitDefEqProofs (disch := omega) only [go_sem, ↓reduceIte, reduceCtorEq, rA, rq, rL, zA, aZ, lR, beq_self_eq_true, YH, QnG, QnF, QnE, QnD, QnC, QnB, QnA, Qnz, Qny, Nd.cells, Qcp, QkE, kG_5, kG_6, QHx, kG_9, QhW, QjK, Qc2, getD_map, lN, lC, nA, cA, false_implies, true_implies, and_true, k, Int.reduceBEq]
  refine Qd hT QdX (c_Cell hT S tS C' hC tC d.a d.n _) (by simp [Qv, Qn]) 1000 ?_
  refine yI ?_
  exact ⟨t + 1, by omega, rfl⟩
 ·have e : Qi3 S C' K d = doW d.op ((kAt K d.x).getD 0) ((kAt K d.y).getD 0) := by rw [Qi3, if_neg (by omega), if_neg (by omega), if_neg (by omega)]
  rw [e]
  simp -implicitDefEqProofs (disch := omega) only [go_sem, ↓reduceIte, reduceCtorEq, rA, rq, rL, zA, aZ, lR, YH, QnG, QnF, QnE, QnD, QnC, QnB, QnA, Qnz, Qny, Nd.cells, Qcp, QkE, kG_6, QHx, kG_9, QhW, QjK, Qc2, getD_map, lN, lC, nA, cA, true_implies, and_true, k, Int.reduceBEq]
  refine Qd hT QbC (c_Do hT ho.1 ho.2 (Qmq hK _) (Qmq hK _)) rfl 1000 ?_
  refine yI ?_
  exact ⟨t + 1, by omega, rfl⟩
def knows (S : List Int) (C : List Cl) (L : List Nd) (U : List Int) : List (Int × Int) := U.foldl (fun K x => K ++ [(x, Qi3 S C K (nd L x))]) []
theorem QlF {S : List Int} {C : List Cl} {L : List Nd} {U : List Int} {x : Int} : knows S C L (U ++ [x]) = knows S C L U ++ [(x, Qi3 S C (knows S C L U) (nd L x))] := by simp [knows]
theorem QlK (S : List Int) (C : List Cl) (L : List Nd) : ∀ (U : List Int) (K : List (Int × Int)), (U.foldl (fun K x => K ++ [(x, Qi3 S C K (nd L x))]) K).map (·.1) = K.map (·.1) ++ U
 | [], K => by simp
 | x :: U, K => by rw [List.foldl_cons, QlK S C L U]; simp
theorem Qtb (S : List Int) (C : List Cl) (L : List Nd) (U : List Int) : (knows S C L U).map (·.1) = U := by
 rw [knows, QlK]; simp
theorem QyD {K : List (Int × Int)} {x v : Int} (h : x ∉ K.map (·.1)) : Qr6 [.i] (.int .i64 x) (.int .i64 v) (kEs K) = kEs (K ++ [(x, v)]) := by
 induction K with
 | nil => rfl
 | cons p K ih =>
   simp only [List.map_cons, List.mem_cons, not_or] at h
   simp only [kEs, List.map_cons, cA, Qr6, Qow] at ih ⊢
   rw [decide_eq_false h.1]
   simp only [Bool.false_eq_true, if_false]
   rw [ih h.2]
theorem Qyv {S : List Int} {C : List Cl} {K : List (Int × Int)} {d : Nd} (hS : ∀ x ∈ S, i64 x) (hC : ∀ c ∈ C, i64 c.n) (hK : ∀ p ∈ K, i64 p.2) (hd : i64 d.n) : i64 (Qi3 S C K d) := by
 refine Xt hd (Xt ?_ (Xt ?_ (QqU (Qmq hK _) (Qmq hK _))))
 ·unfold QvQ
  refine Xt (by unfold i64; omega) ?_
  rw [List.getD_eq_getElem?_getD]
  cases h : S[d.n.toNat]? with
  | none => simp [i64]
  | some x => exact hS x (List.mem_of_getElem? h)
 ·unfold Qju
  refine Xt (by unfold i64; omega) ?_
  cases h : C[(QpQ (isC d.a d.n ((kAt K d.y).getD 0)) C 0).toNat]? with
  | none => simp [i64]
  | some c => exact hC c (List.mem_of_getElem? h)
theorem Qov {S : List Int} {C : List Cl} {L : List Nd} (hS : ∀ x ∈ S, i64 x) (hC : ∀ c ∈ C, i64 c.n) (hL : ∀ x, i64 (nd L x).n) : ∀ (U : List Int) (K : List (Int × Int)), (∀ p ∈ K, i64 p.2) → ∀ p ∈ U.foldl (fun K x => K ++ [(x, Qi3 S C K (nd L x))]) K, i64 p.2
 | [], K, hK => hK
 | x :: U, K, hK => by
   rw [List.foldl_cons]
   refine Qov hS hC hL U _ fun p hp => ?_
   rcases List.mem_append.1 hp with h | h
   ·exact hK p h
   ·rw [List.mem_singleton.1 h]
    exact Qyv hS hC hK (hL x)
abbrev alJ (fmt : Int → List UInt8) (v0 v1 v2 v3 v4 ve vm vk t0 z : Nat) (L : List Nd) (S : List Int) (tS : Bool) (C' : List Cl) (tC : Bool) (ids : List Int) (tr : Bool) (U : List Int) : Nat → Fr → H → Prop := fun i fr σ => ∃ t', t0 ≤ t' ∧ Qt fr 0 = .ptr 1 v0 0 ∧ Qt fr 2 = .lst z (Q7 ids) tr ∧ Qt fr 8 = .ptr 7 vk 0 ∧ Qt fr 9 = .fn (.func Qa1) [] [.ptr 5 ve 0, .ptr 7 vk 0] ∧ Qt fr 23 = .lst 1 (Q7 U) false ∧ Qt fr 24 = .int .i64 U.length ∧ Qt fr 25 = .int .i64 ((i : Nat) : Int) ∧ σ = ⟨t', kG fmt v0 v1 v2 v3 v4 L ++ QhW ve vm vk S tS C' tC (knows S C' L (U.take i))⟩
abbrev alE (fmt : Int → List UInt8) (v0 v1 v2 v3 v4 ve vm vk t0 z : Nat) (L : List Nd) (S : List Int) (tS : Bool) (C' : List Cl) (tC : Bool) (ids : List Int) (tr : Bool) (U : List Int) : AE → Fr → H → Prop := fun e fr σ => e = .ex 0 ∧ ∃ t', t0 ≤ t' ∧ Qt fr 2 = .lst z (Q7 ids) tr ∧ Qt fr 8 = .ptr 7 vk 0 ∧ σ = ⟨t', kG fmt v0 v1 v2 v3 v4 L ++ QhW ve vm vk S tS C' tC (knows S C' L U)⟩
def fit (L : List Nd) : Prop := ∀ x : Int, 0 ≤ x → x < L.length → ((nd L x).kind = 1 ∨ (nd L x).kind = 2 ∨ (nd L x).kind = 3 ∨ (nd L x).kind = 4) ∧ (0 ≤ (nd L x).op ∧ (nd L x).op ≤ 255)
theorem QxC (hT : Qj P tab) {fmt : Int → List UInt8} {v0 v1 v2 v3 v4 ve vm vk t0 i z : Nat} {L : List Nd} (hfit : fit L) (hLn : ∀ x, i64 (nd L x).n) {S : List Int} {tS tC tr : Bool} {C' : List Cl} (hS : ∀ x ∈ S, i64 x) (hC : C'.length ≤ 1000000) (hCn : ∀ c ∈ C', i64 c.n) {ids U : List Int} (hU : ∀ x ∈ U, 0 ≤ x ∧ x < L.length) (hUn : U.Nodup) (hUl : U.length ≤ 1000000) {x : Int} (hx : U[i]? = some x) {fr : Fr} {σ : H} (hJ : alJ fmt v0 v1 v2 v3 v4 ve vm vk t0 z L S tS C' tC ids tr U i fr σ) :
 W P G 65 5 (AC.seq (AC.reg QrI [])   (AC.seq (AC.cond (Arg.t 26)   AC.skip   (AC.exit 0))   (AC.seq (AC.block 1 (AC.seq (AC.reg QrH [27, 28])   (AC.seq (AC.reg QrG [30, 31, 32, 29, 33, 34, 13])   (AC.reg QrF [35, 36, 37, 38, 39]))))   (AC.reg QrE [40])))) fr σ (Qjg (fun fr σ => ∃ fr' σ', Shift G 65 5 fr σ fr' σ' ∧ alJ fmt v0 v1 v2 v3 v4 ve vm vk t0 z L S tS C' tC ids tr U (i + 1) fr' σ') (alE fmt v0 v1 v2 v3 v4 ve vm vk t0 z L S tS C' tC ids tr U)) := by
 obtain ⟨t', ht, f0, f2, f8, f9, f23, f24, f25, rfl⟩ := hJ
 have hlt := (List.getElem?_eq_some_iff.1 hx).1
 have hD := QeU hx
 have e2 := QvF hlt (by omega)
 obtain ⟨h0, h1⟩ := hU x (List.mem_of_getElem? hx)
 have hN := fun t ex => Qfa (P := P) (G := G) hT (base := 5) (fmt := fmt) (v0 := v0) (v1 := v1) (v2 := v2) (v3 := v3) (v4 := v4) (t := t) (L := L) (ex := ex) (id := x)
 have hts := ZM hx
 have s1 : knows S C' L (U.take (i + 1)) = knows S C' L (U.take i) ++ [(x, Qi3 S C' (knows S C' L (U.take i)) (nd L x))] := by rw [hts, QlF]
 have hK : ∀ p ∈ knows S C' L (U.take i), i64 p.2 := Qov hS hCn hLn _ [] (by simp)
 have hnot : x ∉ (knows S C' L (U.take i)).map (·.1) := by
  rw [Qtb]
  have h2 := hUn.sublist (List.take_sublist (i + 1) U)
  rw [hts] at h2
  intro hm
  exact (List.nodup_append.1 h2).2.2 x hm x (by simp) rfl
 have hone := fun t y => c_One (P := P) (G := G) (lR 9) hT (fmt := fmt) (v0 := v0) (v1 := v1) (v2 := v2) (v3 := v3) (v4 := v4) (ve := ve) (vm := vm) (vk := vk) (t := t) (L := L) (y8 := y) S tS C' hC tC (knows S C' L (U.take i)) hK (nd L x) (hfit x h0 h1).1 (hfit x h0 h1).2
 have hadd := QyD (v := Qi3 S C' (knows S C' L (U.take i)) (nd L x)) hnot
 generalize hs2 : knows S C' L (U.take (i + 1)) = K2 at *
 generalize knows S C' L (U.take i) = K at *
 simp only [if_pos (show 0 ≤ x ∧ x < L.length from ⟨h0, h1⟩)] at hN
 simp only [show L.getD x.toNat zeroNd = nd L x from rfl] at hN
 generalize Qi3 S C' K (nd L x) = r at *
 generalize nd L x = d at *
 simp only [Nd.cells] at hN hone
 refine QA [(0, .ptr 1 v0 0), (2, .lst z (Q7 ids) tr), (8, .ptr 7 vk 0), (9, .fn (.func Qa1) [] [.ptr 5 ve 0, .ptr 7 vk 0]), (23, .lst 1 (Q7 U) false), (24, .int .i64 U.length), (25, .int .i64 ((i : Nat) : Int))] ⟨f0, f2, f8, f9, f23, f24, f25, trivial⟩  1000 ?_
 simp -implicitDefEqProofs (disch := omega) only [go_sem, Qr, ↓reduceIte, reduceCtorEq, rq, zA, decide_true, lR, QrI, QrH, QrG, QrF, QrE, Xe, QhW, lN, lC, true_implies, and_true, hlt, hD]
 refine call hT Qu (hN _ _) 1000 fun u σ hu => ?_
 obtain ⟨rfl, t2, ht2, rfl⟩ := hu
 simp -implicitDefEqProofs (disch := omega) only [go_sem, ↓reduceIte, reduceCtorEq, rA, rq, rL, rT, zA, nF, lR, Qcp, QkE, QHx, kG_8, kGs_8, lN, lC, nA, cA, false_implies, true_implies, and_true]
 have hsub : ∀ (K : List (Int × Int)) (y : Option Ob), Qa5 (kG fmt v0 v1 v2 v3 v4 L ++ QhW ve vm vk S tS C' tC K) (kG fmt v0 v1 v2 v3 v4 L ++ [some (.arr ve 48 [.lst 1 (Q7 S) tS, .lst 4 (C'.map Cl.v) tC]), some (.map vm (kEs K)), some (.arr vk 109 [.mp 6 vm]), y]) := fun K y => by
  have := QbF 8 (kG fmt v0 v1 v2 v3 v4 L ++ [some (.arr ve 48 [.lst 1 (Q7 S) tS, .lst 4 (C'.map Cl.v) tC]), some (.map vm (kEs K)), some (.arr vk 109 [.mp 6 vm]), y])
  exact this
 refine CV.use 1000 (CV.of hT Qf9 (hone _ _)) fun u σ hu => ?_
 obtain ⟨rfl, t3, ht3, rfl⟩ := hu
 simp -implicitDefEqProofs (disch := omega) only [go_sem, ↓reduceIte, reduceCtorEq, rq, rL, nF, kG_6, kGs_6, Qc2, QhW, nA, cA, and_true, hadd, e2]
 refine ⟨_, _, Shift.drop (o' := kG fmt v0 v1 v2 v3 v4 L ++ QhW ve vm vk S tS C' tC (K ++ [(x, r)])) (t' := t3) (hsub _ _) (lR _) (by simp [kG, QhW]), t3, by omega, ?_⟩
 simp -implicitDefEqProofs (disch := omega) only [go_sem, ↓reduceIte, reduceCtorEq, rq, hs2, s1]
theorem Qgg {L : List Nd} (hok : okN L) : fit L := by
 intro x h0 h1
 obtain ⟨d, hd⟩ : ∃ d, L[x.toNat]? = some d := ⟨_, List.getElem?_eq_getElem (by omega)⟩
 have e : nd L x = d := by simp [nd, List.getD_eq_getElem?_getD, hd]
 rw [e]
 obtain ⟨hp, h2, hk⟩ := Qe6 (hok _ d hd).2.2
 exact ⟨hk, by omega, by omega⟩
theorem QDW {L : List Nd} (hok : okN L) (x : Int) : i64 (nd L x).n := by
 unfold nd
 rw [List.getD_eq_getElem?_getD]
 cases h : L[x.toNat]? with
 | none => simp [i64, zeroNd]
 | some d => exact (hok _ d h).1
def Qm2 (K : List (Int × Int)) (ids : List Int) (i n : Nat) : List V := Q7 ((ids.take i).map fun x => (kAt K x).getD 0) ++ List.replicate (n - i) (.int .i64 0)
theorem Qqi {K : List (Int × Int)} {ids : List Int} {i n : Nat} (h : i ≤ n) (h2 : ids.length = n) : (Qm2 K ids i n).length = n := by simp [Qm2, Q7]; omega
theorem Qyt {K : List (Int × Int)} {ids : List Int} {i n : Nat} {x y : Int} (hx : ids[i]? = some x) (hn : ids.length = n) (hk : kAt K x = some y) : (Qm2 K ids i n).set i (.int .i64 y) = Qm2 K ids (i + 1) n := by
 have hlt := (List.getElem?_eq_some_iff.1 hx).1
 have h1 : (Q7 ((ids.take i).map fun x => (kAt K x).getD 0)).length = i := by simp [Q7]; omega
 have h2 : n - i = (n - (i + 1)) + 1 := by omega
 rw [Qm2, Qm2, ZM hx, List.set_append, if_neg (by omega), h1, Nat.sub_self, h2, List.replicate_succ, List.set_cons_zero]
 simp [Q7, hk]
abbrev ouJ (fmt : Int → List UInt8) (v0 v1 v2 v3 v4 ve vm vk vo t : Nat) (L : List Nd) (S : List Int) (tS : Bool) (C' : List Cl) (tC : Bool) (K : List (Int × Int)) (ids : List Int) (tr : Bool) : Nat → Fr → H → Prop := fun i fr σ => (∀ x ∈ ids.take i, (kAt K x).isSome = true) ∧ Qt fr 8 = .ptr 7 vk 0 ∧ Qt fr 14 = .sl 8 vo 0 1 ids.length none ∧ Qt fr 44 = .lst 1 (Q7 ids) tr ∧ Qt fr 45 = .int .i64 ids.length ∧ Qt fr 46 = .int .i64 ((i : Nat) : Int) ∧ σ = ⟨t, kG fmt v0 v1 v2 v3 v4 L ++ (QhW ve vm vk S tS C' tC K ++ [some (.arr vo 2 (Qm2 K ids i ids.length))])⟩
abbrev ouE (fmt : Int → List UInt8) (v0 v1 v2 v3 v4 ve vm vk vo t : Nat) (L : List Nd) (S : List Int) (tS : Bool) (C' : List Cl) (tC : Bool) (K : List (Int × Int)) (ids : List Int) : AE → Fr → H → Prop := fun e fr σ => (e = .ret ∧ (∃ x ∈ ids, kAt K x = none) ∧ Qt fr 6 = .lst 0 [] true ∧ Qt fr 7 = .bool false ∧ ∃ i, σ = ⟨t, kG fmt v0 v1 v2 v3 v4 L ++ (QhW ve vm vk S tS C' tC K ++ [some (.arr vo 2 (Qm2 K ids i ids.length))])⟩) ∨ (e = .ex 2 ∧ (∀ x ∈ ids, (kAt K x).isSome = true) ∧ Qt fr 14 = .sl 8 vo 0 1 ids.length none ∧ σ = ⟨t, kG fmt v0 v1 v2 v3 v4 L ++ (QhW ve vm vk S tS C' tC K ++ [some (.arr vo 2 (Qm2 K ids ids.length ids.length))])⟩)
theorem QvZ {fmt : Int → List UInt8} {v0 v1 v2 v3 v4 ve vm vk vo t i : Nat} {L : List Nd} {S : List Int} {tS tC tr : Bool} {C' : List Cl} {K : List (Int × Int)} {ids : List Int} (hl : ids.length ≤ 1000000) {x : Int} (hx : ids[i]? = some x) {fr : Fr} {σ : H} (hJ : ouJ fmt v0 v1 v2 v3 v4 ve vm vk vo t L S tS C' tC K ids tr i fr σ) :
 W P G 65 5 (AC.seq (AC.reg Qj1 [])   (AC.seq (AC.cond (Arg.t 47)   AC.skip   (AC.exit 2))   (AC.seq (AC.block 3 (AC.seq (AC.reg Qj0 [48, 49, 50])   (AC.seq (AC.reg QjZ [52, 53, 54, 51, 55, 56])   (AC.seq (AC.seq (AC.reg QjY [57])   (AC.cond (Arg.t 58)   (AC.seq (AC.reg QjX [])   AC.ret)   AC.skip))   (AC.reg QjW [59, 60, 61, 62])))))   (AC.reg QjV [63])))) fr σ (Qjg (fun fr σ => ∃ fr' σ', Shift G 65 5 fr σ fr' σ' ∧ ouJ fmt v0 v1 v2 v3 v4 ve vm vk vo t L S tS C' tC K ids tr (i + 1) fr' σ') (ouE fmt v0 v1 v2 v3 v4 ve vm vk vo t L S tS C' tC K ids)) := by
 obtain ⟨hall, f8, f14, f44, f45, f46, rfl⟩ := hJ
 have hlt := (List.getElem?_eq_some_iff.1 hx).1
 have hD := QeU hx
 have e2 := QvF hlt (by omega)
 have hol : (Qm2 K ids i ids.length).length = ids.length := Qqi (by omega) rfl
 cases hk : kAt K x with
 | none =>
   refine QA [(8, .ptr 7 vk 0), (14, .sl 8 vo 0 1 ids.length none), (44, .lst 1 (Q7 ids) tr), (45, .int .i64 ids.length), (46, .int .i64 ((i : Nat) : Int))] ⟨f8, f14, f44, f45, f46, trivial⟩  1000 ?_
   simp -implicitDefEqProofs (disch := omega) only [go_sem, Qr, ↓reduceIte, rA, rq, rT, zA, decide_true, nF, lR, Option.isSome_none, Option.getD_none, Qj1, Qj0, QjZ, QjY, QjX, QjW, QjV, kG_6, QHx, QhW, Xe, QjK, Qc2, lN, lC, nA, cA, true_implies, and_true, hlt, hD, hk, Option.map_none, Option.isSome_none]
   exact .inl ⟨rfl, ⟨x, List.mem_of_getElem? hx, hk⟩, yb, yb, i, rfl⟩
 | some y =>
   have hs := Qyt hx rfl hk
   rw [List.set_eq_take_append_cons_drop, if_pos (by omega)] at hs
   have hs' : List.take i (Qm2 K ids i ids.length) ++ [V.int .i64 y] ++ List.drop (i + 1) (Qm2 K ids i ids.length) = Qm2 K ids (i + 1) ids.length := by rw [aA]; exact hs
   refine QA [(8, .ptr 7 vk 0), (14, .sl 8 vo 0 1 ids.length none), (44, .lst 1 (Q7 ids) tr), (45, .int .i64 ids.length), (46, .int .i64 ((i : Nat) : Int))] ⟨f8, f14, f44, f45, f46, trivial⟩  1000 ?_
   simp -implicitDefEqProofs (disch := omega) only [go_sem, Qr, ↓reduceIte, rA, rq, rL, rT, zA, Nat.mul_one, decide_true, nT, nF, lR, Option.isSome_some, Option.getD_some, Qj1, Qj0, QjZ, QjY, QjX, QjW, QjV, kG_6, QHx, kG_8, kGs_8, QhW, Xe, QjK, Qc2, lN, lC, nA, cA, true_implies, true_and, and_true, hlt, hD, e2, hk, Option.map_some, Option.isSome_some, hol]
   refine ⟨_, _, Shift.refl _ _ _ _, fun w hw => ?_, ?_⟩
   ·rw [ZM hx] at hw
    rcases List.mem_append.1 hw with h | h
    ·exact hall w h
    ·rw [List.mem_singleton.1 h, hk]; rfl
   ·simp -implicitDefEqProofs (disch := omega) only [go_sem, ↓reduceIte, rq, QhW, nA, cA, and_true, hs']
def kEx (t : Nat) (o : List (Option Ob)) (σ : H) : Prop := ∃ t' ex, t ≤ t' ∧ σ = ⟨t', o ++ ex⟩
theorem QGm : (Value.map none).oneCell' = true := rfl
theorem c_All0 (hT : Qj P tab) (SO : ZG P) {fmt : Int → List UInt8} {v0 v1 v2 v3 v4 t : Nat} {L : List Nd} (hL : L.length ≤ 1000000) (hok : okN L) (S : List Int) (hS : ∀ x ∈ S, i64 x) (tS : Bool) (C' : List Cl) (hC : C'.length ≤ 1000000) (hCn : ∀ c ∈ C', i64 c.n) (tC : Bool) (ids : List Int) (tr : Bool) (hil : ids.length ≤ 1000000) :
 C P G 5 Qdu [.ptr 1 v0 0, Qfc S tS 4 C' tC, .lst 1 (Q7 ids) tr] ⟨t, kG fmt v0 v1 v2 v3 v4 L⟩ fun v σ => (v = .tup [.lst 0 [] true, .bool false] ∧ (∃ x ∈ ids, kAt (knows S C' L (QN L ids)) x = none) ∧ kEx t (kG fmt v0 v1 v2 v3 v4 L) σ) ∨ (∃ vo t' ve vm vk, t ≤ t' ∧ v = .tup [.sl 8 vo 0 1 ids.length none, .bool true] ∧ (∀ x ∈ ids, (kAt (knows S C' L (QN L ids)) x).isSome = true) ∧ σ = ⟨t', kG fmt v0 v1 v2 v3 v4 L ++ (QhW ve vm vk S tS C' tC (knows S C' L (QN L ids)) ++ [some (.arr vo 2 (Qm2 (knows S C' L (QN L ids)) ids ids.length ids.length))])⟩) := by
 refine Qx hT Qke (by simp [QeE]) (Qs 1000 ?_)
 simp -implicitDefEqProofs (disch := omega) only [go_sem, ↓reduceIte, reduceCtorEq, rA, rq, rL, zA, nF, lR, QeE, QDo, QDn, QDm, QDl, QrI, QrH, QrG, QrF, QrE, QDk, Qu7, Qj1, Qj0, QjZ, QjY, QjX, QjW, QjV, Qu6, Qfc, QGm, Qcp, QkE, QHx, kGs_7, QhW, lN, lC, nA, cA, and_true]
 have hU := fun t ex => QD5 (P := P) (G := G) hT SO (base := 5) (fmt := fmt) (v0 := v0) (v1 := v1) (v2 := v2) (v3 := v3) (v4 := v4) (t := t) (L := L) (ex := ex) hL hok.wf ids 1 tr (.inl rfl) (by omega)
 have hUb : ∀ x ∈ QN L ids, 0 ≤ x ∧ x < L.length := QeG
 have hUn : (QN L ids).Nodup := Qfo
 have hUl : (QN L ids).length ≤ 1000000 := by have := Qhs L.length (QN L ids) Qfo QeG; omega
 generalize QN L ids = U at *
 refine call hT Zf (hU _ _) 1000 fun v σ hv => ?_
 obtain ⟨rfl, t1, ht1, rfl⟩ := hv
 refine yS ?_
 refine Qcw U (alJ fmt v0 v1 v2 v3 v4 t (t + 1) (t + 1 + 1) t1 1 L S tS C' tC ids tr U) (alE fmt v0 v1 v2 v3 v4 t (t + 1) (t + 1 + 1) t1 1 L S tS C' tC ids tr U) ⟨t1, lR _, ?_⟩ (fun i x hx fr σ hJ => QxC hT (Qgg hok) (QDW hok) hS hC hCn hUb hUn hUl hx hJ) (fun i hi fr σ hJ => ?_) (fun e fr σ hE => ?_)
 ·simp -implicitDefEqProofs (disch := omega) only [go_sem, ↓reduceIte, reduceCtorEq, rq, QhW, true_and]
  exact ⟨rfl, rfl, rfl, rfl⟩
 ·obtain ⟨t2, ht2, f0, f2, f8, f9, f23, f24, f25, rfl⟩ := hJ
  refine Qs 1000 ?_
  simp -implicitDefEqProofs (disch := omega) only [go_sem, ↓reduceIte, decide_false, QhW, f24, f25, hi, Nat.lt_irrefl, List.take_length]
  exact ⟨rfl, t2, ht2, by simp -implicitDefEqProofs (disch := omega) only [go_sem, ↓reduceIte, rq, f2], by simp -implicitDefEqProofs (disch := omega) only [go_sem, ↓reduceIte, rq, f8], rfl⟩
 ·obtain ⟨rfl, t2, ht2, f2, f8, rfl⟩ := hE
  refine QjE [(2, .lst 1 (Q7 ids) tr), (8, .ptr 7 (t + 1 + 1) 0)] ⟨f2, f8, trivial⟩ 1000 ?_
  simp -implicitDefEqProofs (disch := omega) only [go_sem, Qr, ↓reduceIte, rA, rq, zA, lR, Qcp, QkE, QhW, Xe, lN, lC, nA, cA, true_and, and_true]
  refine Qcw ids (ouJ fmt v0 v1 v2 v3 v4 t (t + 1) (t + 1 + 1) t2 (t2 + 1) L S tS C' tC (knows S C' L U) ids tr) (ouE fmt v0 v1 v2 v3 v4 t (t + 1) (t + 1 + 1) t2 (t2 + 1) L S tS C' tC (knows S C' L U) ids) ⟨by simp, ?_⟩ (fun i x hx fr σ hJ => QvZ hil hx hJ) (fun i hi fr σ hJ => ?_) (fun e fr σ hE => ?_)
  ·simp -implicitDefEqProofs (disch := omega) only [go_sem, ↓reduceIte, rq, QhW, nA, cA, true_and]
   have ho : Qm2 (knows S C' L U) ids 0 ids.length = (List.replicate ids.length [V.int .i64 0]).flatten := by
    simp only [Qm2, tZ, List.map_nil, Q7, nA, Nat.sub_zero]
    induction ids.length with
    | zero => rfl
    | succ n ih => rw [List.replicate_succ, List.replicate_succ, List.flatten_cons, ← ih]; rfl
   rw [ho]
   exact ⟨rfl, rfl⟩
  ·obtain ⟨hall, f8, f14, f44, f45, f46, rfl⟩ := hJ
   rw [hi, List.take_length] at hall
   refine Qs 1000 ?_
   simp -implicitDefEqProofs (disch := omega) only [go_sem, ↓reduceIte, decide_false, QhW, nA, cA, f45, f46, hi, Nat.lt_irrefl]
   exact .inr ⟨rfl, hall, by simp -implicitDefEqProofs (disch := omega) only [go_sem, ↓reduceIte, rq, f14], rfl⟩
  ·rcases hE with ⟨rfl, hn, f6, f7, i, rfl⟩ | ⟨rfl, hall, f14, rfl⟩
   ·refine QI 1000 ?_
    simp -implicitDefEqProofs (disch := omega) only [go_sem, QhW, nA, cA, true_and, f6, f7]
    exact .inl ⟨hn, t2 + 1, _, by omega, rfl⟩
   ·refine QI 1000 ?_
    simp -implicitDefEqProofs (disch := omega) only [go_sem, ↓reduceIte, rq, QhW, nA, cA, f14]
    exact .inr ⟨t2, t2 + 1, t, t + 1, t + 1 + 1, by omega, rfl, hall, rfl, rfl⟩
def QeO (S : List Int) (C : List Cl) (v : Int → Int) (d : Nd) : Int :=
 if d.kind = 1 then d.n else if d.kind = 2 then QvQ S d.n else if d.kind = 3 then Qju C d.a d.n (v d.y) else doW d.op (v d.x) (v d.y)
theorem QsR {S S' : List Int} {C C' : List Cl} {v v' : Int → Int} {d : Nd} (hk : d.kind = 1 ∨ d.kind = 2 ∨ d.kind = 3 ∨ d.kind = 4) (h : ∀ p ∈ d.parts, v p = v' p)
 (hs : d.kind = 2 → QvQ S d.n = QvQ S' d.n) (hc : d.kind = 3 → ∀ y, Qju C d.a d.n y = Qju C' d.a d.n y) : QeO S C v d = QeO S' C' v' d := by
 unfold QeO
 rcases hk with k | k | k | k
 ·rw [if_pos k, if_pos k]
 ·simp [k, hs k]
 ·have := h d.y (by simp [Nd.parts, k])
  simp [k, this, hc k]
 ·have h1 := h d.x (by simp [Nd.parts, k])
  have h2 := h d.y (by simp [Nd.parts, k])
  simp [k, h1, h2]
theorem Qki {S : List Int} {C : List Cl} {v v' : Int → Int} {d : Nd} (hk : d.kind = 1 ∨ d.kind = 2 ∨ d.kind = 3 ∨ d.kind = 4) (h : ∀ p ∈ d.parts, v p = v' p) : QeO S C v d = QeO S C v' d :=
 QsR hk h (fun _ => rfl) (fun _ _ => rfl)
def Qn4 (S : List Int) (C : List Cl) (out : List Int) (d : Nd) : List Int := out ++ [QeO S C (fun p => out.getD p.toNat 0) d]
def vals (S : List Int) (C : List Cl) (L : List Nd) : List Int := L.foldl (Qn4 S C) []
def val (S : List Int) (C : List Cl) (L : List Nd) (x : Int) : Int := (vals S C L).getD x.toNat 0
theorem QvH {S : List Int} {C : List Cl} {L : List Nd} {d : Nd} : vals S C (L ++ [d]) = vals S C L ++ [QeO S C (fun p => (vals S C L).getD p.toNat 0) d] := by simp [vals, Qn4]
theorem Qn1 (S : List Int) (C : List Cl) : ∀ (L : List Nd) (o : List Int), (L.foldl (Qn4 S C) o).length = o.length + L.length
 | [], o => by simp
 | d :: L, o => by rw [List.foldl_cons, Qn1 S C L]; simp [Qn4]; omega
theorem QrK {S : List Int} {C : List Cl} {L : List Nd} : (vals S C L).length = L.length := by simpa [vals] using Qn1 S C L []
theorem Qn3 (S : List Int) (C : List Cl) : ∀ (L : List Nd) (o : List Int), ∃ r, L.foldl (Qn4 S C) o = o ++ r
 | [], o => ⟨[], by simp⟩
 | d :: L, o => by
   obtain ⟨r, hr⟩ := Qn3 S C L (Qn4 S C o d)
   exact ⟨_, by rw [List.foldl_cons, hr, Qn4, aA]⟩
theorem Qte {l r : List Int} {i : Nat} (h : i < l.length) : (l ++ r).getD i 0 = l.getD i 0 := by
 rw [List.getD_eq_getElem?_getD, List.getD_eq_getElem?_getD, List.getElem?_append_left h]
theorem Qtd {l : List Int} {x : Int} {i : Nat} (h : l.length = i) : (l ++ [x]).getD i 0 = x := by
 rw [List.getD_eq_getElem?_getD, List.getElem?_append_right (by omega), h, Nat.sub_self]; rfl
theorem QlX {S : List Int} {C : List Cl} {L : List Nd} {n i : Nat} (hi : i < n) (hn : n ≤ L.length) : (vals S C (L.take n)).getD i 0 = (vals S C L).getD i 0 := by
 obtain ⟨r, hr⟩ := Qn3 S C (L.drop n) (vals S C (L.take n))
 have e : vals S C L = vals S C (L.take n) ++ r := by
  rw [← hr]
  conv => lhs; rw [← List.take_append_drop n L]
  rw [vals, vals, List.foldl_append]
 rw [e, Qte]
 rw [QrK, List.length_take]
 omega
theorem nd_get {L : List Nd} {x : Int} (h0 : 0 ≤ x) (h1 : x < L.length) : L[x.toNat]? = some (nd L x) := by
 unfold nd
 rw [List.getD_eq_getElem?_getD, List.getElem?_eq_getElem (by omega)]
 rfl
theorem Qg9 {S : List Int} {C : List Cl} {L : List Nd} (hwf : gwf L) (hfit : fit L) {x : Int} (h0 : 0 ≤ x) (h1 : x < L.length) : val S C L x = QeO S C (val S C L) (nd L x) := by
 have hg := nd_get h0 h1
 have ht := ZM hg
 have hl : (vals S C (L.take x.toNat)).length = x.toNat := by rw [QrK, List.length_take]; omega
 have e : val S C L x = (vals S C (L.take (x.toNat + 1))).getD x.toNat 0 := by rw [QlX (by omega) (by omega)]; rfl
 rw [e, ht, QvH, Qtd hl]
 refine Qki (hfit x h0 h1).1 fun p hp => ?_
 have := hwf _ _ hg p hp
 exact QlX (by omega) (by omega)
theorem QvS {S : List Int} {C : List Cl} {v : Int → Int} {d : Nd} (hS : ∀ x ∈ S, i64 x) (hC : ∀ c ∈ C, i64 c.n) (hv : ∀ p, i64 (v p)) (hd : i64 d.n) : i64 (QeO S C v d) := by
 refine Xt hd (Xt ?_ (Xt ?_ (QqU (hv _) (hv _))))
 ·unfold QvQ
  refine Xt (by unfold i64; omega) ?_
  rw [List.getD_eq_getElem?_getD]
  cases h : S[d.n.toNat]? with
  | none => simp [i64]
  | some x => exact hS x (List.mem_of_getElem? h)
 ·unfold Qju
  refine Xt (by unfold i64; omega) ?_
  cases h : C[(QpQ (isC d.a d.n (v d.y)) C 0).toNat]? with
  | none => simp [i64]
  | some c => exact hC c (List.mem_of_getElem? h)
theorem Qsj {l : List Int} (h : ∀ x ∈ l, i64 x) (n : Nat) : i64 (l.getD n 0) := by
 rw [List.getD_eq_getElem?_getD]
 cases e : l[n]? with
 | none => simp [i64]
 | some x => exact h x (List.mem_of_getElem? e)
theorem Qn2 {S : List Int} {C : List Cl} (hS : ∀ x ∈ S, i64 x) (hC : ∀ c ∈ C, i64 c.n) : ∀ (L : List Nd), (∀ d ∈ L, i64 d.n) → ∀ (o : List Int), (∀ x ∈ o, i64 x) → ∀ x ∈ L.foldl (Qn4 S C) o, i64 x
 | [], _, o, ho => ho
 | d :: L, hL, o, ho => by
   rw [List.foldl_cons]
   refine Qn2 hS hC L (fun d hd => hL d (by simp [hd])) _ fun x hx => ?_
   rcases List.mem_append.1 hx with h | h
   ·exact ho x h
   ·rw [List.mem_singleton.1 h]
    exact QvS hS hC (fun p => Qsj ho _) (hL d (by simp))
theorem Qcv {S : List Int} {C : List Cl} {L : List Nd} (hS : ∀ x ∈ S, i64 x) (hC : ∀ c ∈ C, i64 c.n) (hL : ∀ d ∈ L, i64 d.n) (x : Int) : i64 (val S C L x) :=
 Qsj (Qn2 hS hC L hL [] (by simp)) _
theorem Qcx {L : List Nd} (hok : okN L) : ∀ d ∈ L, i64 d.n := fun d hd => by
 obtain ⟨i, hi⟩ := List.mem_iff_getElem?.1 hd
 exact (hok i d hi).1
theorem QyM {K : List (Int × Int)} {u v x : Int} : kAt (K ++ [(u, v)]) x = (kAt K x).or (if x = u then some v else none) := by
 simp only [kAt, List.find?_append]
 cases h : K.find? fun p => decide (x = p.1) with
 | some p => simp
 | none => by_cases hx : x = u <;> simp [hx]
theorem Qk6 {U : List Int} (hs : U.Pairwise (· < ·)) {n : Nat} {u p : Int} (hu : U[n]? = some u) (hp : p ∈ U) (hlt : p < u) : p ∈ U.take n := by
 obtain ⟨j, hj⟩ := List.mem_iff_getElem?.1 hp
 rcases Nat.lt_or_ge j n with h | h
 ·exact List.mem_iff_getElem?.2 ⟨j, by rw [List.getElem?_take, if_pos h, hj]⟩
 ·exfalso
  rcases Nat.lt_or_eq_of_le h with h | h
  ·have h1 := (List.getElem?_eq_some_iff.1 hu)
   have h2 := (List.getElem?_eq_some_iff.1 hj)
   have := List.pairwise_iff_getElem.1 hs n j h1.1 h2.1 h
   rw [h1.2, h2.2] at this
   omega
  ·subst h
   rw [hu] at hj
   cases hj
   omega
theorem Qou {S : List Int} {C : List Cl} {L : List Nd} (hwf : gwf L) (hfit : fit L) {U : List Int} (hr : ∀ x ∈ U, 0 ≤ x ∧ x < L.length) (hs : U.Pairwise (· < ·)) (hc : ∀ x ∈ U, ∀ p ∈ pts L x, p ∈ U) :
 ∀ n, n ≤ U.length → ∀ x, kAt (knows S C L (U.take n)) x = if x ∈ U.take n then some (val S C L x) else none
 | 0, _, x => by simp [knows, kAt]
 | n + 1, hn, x => by
   obtain ⟨u, hu⟩ : ∃ u, U[n]? = some u := ⟨_, List.getElem?_eq_getElem (by omega)⟩
   have ih := Qou (S := S) (C := C) hwf hfit hr hs hc n (by omega)
   have hum := List.mem_of_getElem? hu
   obtain ⟨h0, h1⟩ := hr u hum
   have hv : Qi3 S C (knows S C L (U.take n)) (nd L u) = val S C L u := by
    rw [Qg9 hwf hfit h0 h1]
    refine Qki (v := fun p => (kAt (knows S C L (U.take n)) p).getD 0) (hfit u h0 h1).1 fun p hp => ?_
    have hpl := Qly hwf h0 h1 p hp
    have hpm : p ∈ U.take n := Qk6 hs hu (hc u hum p hp) hpl.2
    show (kAt (knows S C L (U.take n)) p).getD 0 = _
    rw [ih p, if_pos hpm]
    rfl
   rw [ZM hu, QlF, QyM, ih, hv]
   by_cases hx : x ∈ U.take n
   ·simp [hx]
   ·by_cases hxu : x = u
    ·subst hxu; simp [hx]
    ·simp [hx, hxu]
theorem QlY {L : List Nd} (hwf : gwf L) {ids : List Int} {x : Int} : x ∈ QN L ids ↔ ∃ r ∈ ids, (0 ≤ r ∧ r < L.length) ∧ x ∈ QN L [r] := by
 rw [Qmk, Qoo hwf ids [] (by simp)]
 simp
theorem Qn5 {L : List Nd} (hwf : gwf L) {ids : List Int} {x p : Int} (hx : x ∈ QN L ids) (hp : p ∈ pts L x) : p ∈ QN L ids := by
 rw [QlY hwf] at hx ⊢
 obtain ⟨r, h1, h2, h3⟩ := hx
 exact ⟨r, h1, h2, Qdm hwf h3 hp⟩
theorem Qta {S : List Int} {C : List Cl} {L : List Nd} (hwf : gwf L) (hfit : fit L) (ids : List Int) {x : Int} (hx : x ∈ ids) :
 kAt (knows S C L (QN L ids)) x = if 0 ≤ x ∧ x < L.length then some (val S C L x) else none := by
 have h := Qou (S := S) (C := C) hwf hfit (U := QN L ids) QeG Qgk (fun x hx p hp => Qn5 hwf hx hp) _ (lR _) x
 rw [List.take_length] at h
 rw [h]
 by_cases hr : 0 ≤ x ∧ x < L.length
 ·rw [if_pos hr, if_pos ((QlY hwf).2 ⟨x, hx, hr, QeF hwf hr.1 hr.2⟩)]
 ·rw [if_neg hr, if_neg fun hm => hr (QeG x hm)]
end Go.Proofs.YtpdeoalocejodaaGreatDoor
