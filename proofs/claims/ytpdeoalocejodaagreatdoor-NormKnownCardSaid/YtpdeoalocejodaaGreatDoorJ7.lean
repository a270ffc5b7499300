/- Terms made plain: the program's small functions. -/
import Derived.Test.YtpdeoalocejodaaGreatDoorJ6
import Derived.Test.YtpdeoalocejodaaGreatDoorAmD
open Nat renaming reduceEqDiff → rq, reduceAdd → rA, reduceLeDiff → rL, reduceLT → rT, zero_add → zA, le_refl → lR, zero_le → zL, add_zero → aZ
open List renaming length_cons → lC, length_nil → lN, take_succ_cons → tSq, length_append → lA, nil_append → nA, cons_append → cA, append_assoc → aA, take_nil → tN, take_zero → tZ, length_map → lM
open Bool renaming not_false → nF, not_true → nT
namespace Go.Proofs.YtpdeoalocejodaaGreatDoor
open Go Go.Am
set_option maxRecDepth 100000
variable {P : Program} {G : Nat → Option V}
set_option maxHeartbeats 1000000
section
variable {fmt : Int → List UInt8} {v0 v1 v2 v3 v4 : Nat} {L : List Nd} {ex zs ys : List (Option Ob)} {y z : Option Ob}
theorem QB : (kG fmt v0 v1 v2 v3 v4 L ++ (ex ++ y :: zs))[5 + ex.length]? = some y := by
 rw [List.getElem?_append_right (by rw [Qa]; omega), Qa, List.getElem?_append_right (by omega)]
 simp
theorem Qac : (kG fmt v0 v1 v2 v3 v4 L ++ (ex ++ y :: z :: zs))[5 + (ex.length + 1)]? = some z := by
 rw [List.getElem?_append_right (by rw [Qa]; omega), Qa, List.getElem?_append_right (by omega)]
 simp
theorem Qbb : (kG fmt v0 v1 v2 v3 v4 L ++ (ex ++ y :: zs)).set (5 + ex.length) z = kG fmt v0 v1 v2 v3 v4 L ++ (ex ++ z :: zs) := by
 rw [List.set_append_right _ _ (by rw [Qa]; omega), Qa, List.set_append_right _ _ (by omega)]
 simp
theorem QbT {u : Option Ob} : (kG fmt v0 v1 v2 v3 v4 L ++ (ex ++ y :: z :: zs)).set (5 + (ex.length + 1)) u = kG fmt v0 v1 v2 v3 v4 L ++ (ex ++ y :: u :: zs) := by
 rw [List.set_append_right _ _ (by rw [Qa]; omega), Qa, List.set_append_right _ _ (by omega)]
 simp
theorem Qh : (kG fmt v0 v1 v2 v3 v4 L ++ (ex ++ zs)).take (5 + ex.length) = kG fmt v0 v1 v2 v3 v4 L ++ ex := by
 rw [← aA, List.take_left' (by simp [kG]; omega)]
theorem QD2 : (kG fmt v0 v1 v2 v3 v4 L ++ ex).length = 5 + ex.length := by simp [kG]; omega
end
abbrev Qbh (fmt : Int → List UInt8) (r : GR) (v0 v1 : Nat) (ex : List (Option Ob)) (t : Nat) : V → H → Prop := fun v σ => v = .int .i64 r.1 ∧ ∃ t' v2' v3' v4', t ≤ t' ∧ σ = ⟨t', kG fmt v0 v1 v2' v3' v4' r.2 ++ ex⟩
abbrev mk (v0 : Nat) : V := .agg [.ptr 1 v0 0]
theorem Qmp (hT : Qj P tab) (F : Fmt P G) {v0 v1 v2 v3 v4 t : Nat} {L : List Nd} {ex : List (Option Ob)} {n : Int} (hn : i64 n) (hL : L.length ≤ 1000000) :
 C P G 0 Qcn [.ptr 1 v0 0, .int .i64 n] ⟨t, kG F.fmt v0 v1 v2 v3 v4 L ++ ex⟩ (Qbh F.fmt (numN L n) v0 v1 ex t) := by
 refine Qx hT QW (by simp [QaW]) (Qs 1000 ?_)
 simp -implicitDefEqProofs (disch := omega) only [go_sem, ↓reduceIte, reduceCtorEq, rA, rq, rL, zA, QaW, QE5, QE4, lC, lN, cA, nA, tSq, tZ, and_true]
 refine call hT Qw (Qgy hT F ⟨1, n, 0, 0, 0, 0⟩ hL hn (show i64 0 by unfold i64; omega)) 1000 fun v σ hv => ?_
 obtain ⟨rfl, t', v2', v3', v4', ht, rfl⟩ := hv
 refine ya ?_
 exact ⟨rfl, t', v2', v3', v4', ht, rfl⟩
theorem Qdw (hT : Qj P tab) (F : Fmt P G) {v0 v1 v2 v3 v4 t : Nat} {L : List Nd} {ex : List (Option Ob)} {n : Int} (hn : i64 n) (hL : L.length ≤ 1000000) :
 C P G 0 Qd2 [mk v0, .int .i64 n] ⟨t, kG F.fmt v0 v1 v2 v3 v4 L ++ ex⟩ (Qbh F.fmt (numN L n) v0 v1 ex t) := by
 refine Ql (5 + ex.length) (zL _) (Qx hT Qo (by simp [ZD]) (Qs 1000 ?_))
 simp -implicitDefEqProofs (disch := omega) only [go_sem, ↓reduceIte, reduceCtorEq, rq, zA, aZ, lR, ZD, QBU, QBT, Qa, QB, lA, lC, lN, aA, true_implies, and_true]
 refine call hT QW (Qmp hT F hn hL) 1000 fun v σ hv => ?_
 obtain ⟨rfl, t', v2', v3', v4', ht, rfl⟩ := hv
 refine yd ?_
 first | exact ⟨by omega, rfl, t', v2', v3', v4', by omega, rfl⟩ | exact ⟨by omega, rfl, t', v2', v3', v4', by omega, rfl, rfl⟩ | exact ⟨by omega, t', v2', v3', v4', by omega, rfl⟩ | exact ⟨by omega, t', v2', v3', v4', by omega, rfl, rfl⟩
theorem QG2 (hT : Qj P tab) (l : List Int) (hl : l.length ≤ 1000000) (tr : Bool) (n : Int) : Pure P G Qol [.int .i64 n, .lst 1 (Q7 l) tr] fun v => v = .bool (decide (n ∈ l)) := by
 intro t
 refine Ql 0 (zL _) (Qx hT Z1 (by simp [Qkp]) (Qs 1000 ?_))
 simp -implicitDefEqProofs (disch := omega) only [go_sem, ↓reduceIte, reduceCtorEq, rq, zA, Qkp, QDj, QDi, QDh, QDg, QDf, QDe, QDd, QDc, Xe]
 refine Qcw l (fun i fr σ => n ∉ l.take i ∧ Qt fr 0 = .int .i64 n ∧ Qt fr 7 = .lst 1 (Q7 l) tr ∧ Qt fr 8 = .int .i64 l.length ∧ Qt fr 9 = .int .i64 ((i : Nat) : Int) ∧ σ = ⟨t, []⟩)
  (fun e fr σ => σ = ⟨t, []⟩ ∧ ((e = .ret ∧ Qt fr 4 = .bool true ∧ n ∈ l) ∨ (e = .ex 0 ∧ n ∉ l))) ⟨by simp, yb, yb, yb, by simp -implicitDefEqProofs (disch := omega) only [go_sem, ↓reduceIte, reduceCtorEq, rq]; rfl, rfl⟩ (fun i x hx fr σ hJ => ?_) (fun i hi fr σ hJ => ?_) (fun e fr σ hE => ?_)
 ·obtain ⟨hn, f0, f7, f8, f9, rfl⟩ := hJ
  have hlt := (List.getElem?_eq_some_iff.1 hx).1
  have hg := QeU hx
  have e2 := QvF hlt (by omega)
  by_cases h : n = x
  ·subst h
   refine QA [(0, .int .i64 n), (7, .lst 1 (Q7 l) tr), (8, .int .i64 l.length), (9, .int .i64 ((i : Nat) : Int))] ⟨f0, f7, f8, f9, trivial⟩ 1000 ?_
   simp -implicitDefEqProofs (disch := omega) only [go_sem, Qr, ↓reduceIte, reduceCtorEq, rq, zA, decide_true, lR, beq_self_eq_true, Xe, hlt, hg]
   exact List.mem_of_getElem? hx
  ·refine QA [(0, .int .i64 n), (7, .lst 1 (Q7 l) tr), (8, .int .i64 l.length), (9, .int .i64 ((i : Nat) : Int))] ⟨f0, f7, f8, f9, trivial⟩ 1000 ?_
   simp -implicitDefEqProofs (disch := omega) only [go_sem, Qr, ↓reduceIte, reduceCtorEq, rq, zA, decide_true, lR, Xe, hlt, hg, h, e2]
   refine ⟨fun h => h.elim, _, _, Shift.refl _ _ _ _, ?_, ?_⟩
   ·rw [ZM hx]; simp [hn, h]
   ·exact yb
 ·obtain ⟨hn, f0, f7, f8, f9, rfl⟩ := hJ
  rw [hi, List.take_length] at hn
  refine QA [(0, .int .i64 n), (7, .lst 1 (Q7 l) tr), (8, .int .i64 l.length), (9, .int .i64 ((i : Nat) : Int))] ⟨f0, f7, f8, f9, trivial⟩ 1000 ?_
  simp -implicitDefEqProofs (disch := omega) only [go_sem, ↓reduceIte, reduceCtorEq, rq, decide_false, hi, Nat.lt_irrefl]
  exact hn
 ·obtain ⟨rfl, ⟨rfl, f4, hm⟩ | ⟨rfl, hm⟩⟩ := hE
  ·refine QI 1000 ?_
   simp -implicitDefEqProofs (disch := omega) only [go_sem, decide_true, lR, f4, hm, decide_true]
  ·refine QI 1000 ?_
   simp -implicitDefEqProofs (disch := omega) only [go_sem, ↓reduceIte, decide_false, lR, hm, decide_false]
def Qjh (L : List Nd) (x : Int) : V := match QE L x with | some n => .tup [.int .i64 n, .bool true] | none => .tup [.int .i64 0, .bool false]
theorem QhA (hT : Qj P tab) {base : Nat} {fmt : Int → List UInt8} {v0 v1 v2 v3 v4 t : Nat} {L : List Nd} {ex : List (Option Ob)} {x : Int} (hb : base ≤ 5 + ex.length) :
 C P G base Qhw [.ptr 1 v0 0, .int .i64 x] ⟨t, kG fmt v0 v1 v2 v3 v4 L ++ ex⟩ fun v σ => v = Qjh L x ∧ ∃ t', t ≤ t' ∧ σ = ⟨t', kG fmt v0 v1 v2 v3 v4 L ++ ex⟩ := by
 refine Ql (5 + ex.length) hb (Qx hT Zg (by simp [QbH]) (Qs 1000 ?_))
 simp -implicitDefEqProofs (disch := omega) only [go_sem, ↓reduceIte, reduceCtorEq, rq, zA, QbH, zqr_0, zqr_1, zqr_2, zqr_3, zqr_4]
 refine call hT Qu (Qfa hT) 1000 fun v σ hv => ?_
 obtain ⟨rfl, t', ht, rfl⟩ := hv
 by_cases hx : inG L x
 ·have hx' : 0 ≤ x ∧ x < L.length := hx
  have e : L.getD x.toNat zeroNd = nd L x := rfl
  rw [if_pos hx', e]
  by_cases hk : (nd L x).kind = 1
  ·have en : Qjh L x = .tup [.int .i64 (nd L x).n, .bool true] := by rw [Qjh, QE, if_pos ⟨hx, hk⟩]
   rw [en]
   generalize nd L x = d at *
   simp -implicitDefEqProofs (disch := omega) only [go_sem, Qr, ↓reduceIte, reduceCtorEq, rA, rq, rL, rT, zA, aZ, nT, nF, lR, bne_self_eq_false, Qa, QB, Qbb, Qh, lA, lC, lN, aA, cA, nA, tZ, true_implies, true_and, and_true, Nd.cells, hk, bne_self_eq_false]
   exact ⟨by omega, t' + 1, by omega, rfl⟩
  ·have en : Qjh L x = .tup [.int .i64 0, .bool false] := by rw [Qjh, QE, if_neg fun h => hk h.2]
   rw [en]
   generalize nd L x = d at *
   simp -implicitDefEqProofs (disch := omega) only [go_sem, Qr, ↓reduceIte, reduceCtorEq, rA, rq, rL, rT, zA, aZ, nT, nF, lR, Qa, QB, Qbb, Qh, lA, lC, lN, aA, cA, nA, tZ, false_implies, true_implies, true_and, and_true, not_false_eq_true, Nd.cells, hk]
   exact ⟨by omega, t' + 1, by omega, rfl⟩
 ·have hx' : ¬ (0 ≤ x ∧ x < L.length) := hx
  have en : Qjh L x = .tup [.int .i64 0, .bool false] := by rw [Qjh, QE, if_neg fun h => hx h.1]
  rw [en, if_neg hx']
  refine yL ?_
  exact ⟨by omega, t' + 1, by omega, rfl⟩
theorem QlI (hT : Qj P tab) {base : Nat} {fmt : Int → List UInt8} {v0 v1 v2 v3 v4 t : Nat} {L : List Nd} {ex : List (Option Ob)} {x : Int} (hb : base ≤ 5 + ex.length) :
 C P G base Qgw [.ptr 1 v0 0, .int .i64 x] ⟨t, kG fmt v0 v1 v2 v3 v4 L ++ ex⟩ fun v σ => v = .bool (Yt L x) ∧ ∃ t', t ≤ t' ∧ σ = ⟨t', kG fmt v0 v1 v2 v3 v4 L ++ ex⟩ := by
 refine Ql (5 + ex.length) hb (Qx hT YO (by simp [QbI]) (Qs 1000 ?_))
 simp -implicitDefEqProofs (disch := omega) only [go_sem, ↓reduceIte, reduceCtorEq, rq, zA, QbI, QEK, QEJ, QEI, QEH, QEG]
 refine call hT Qu (Qfa hT) 1000 fun v σ hv => ?_
 obtain ⟨rfl, t', ht, rfl⟩ := hv
 by_cases hx : inG L x
 ·have hx' : 0 ≤ x ∧ x < L.length := hx
  have e : L.getD x.toNat zeroNd = nd L x := rfl
  rw [if_pos hx', e]
  have en : Yt L x = decide (((nd L x).kind = 4 ∧ ((nd L x).op = 14 ∨ (nd L x).op = 15 ∨ (nd L x).op = 16)) ∨ ((nd L x).kind = 1 ∧ ((nd L x).n = 0 ∨ (nd L x).n = 1))) := by simp [Yt, hx]
  rw [en]
  generalize nd L x = d at *
  by_cases hk : d.kind = 4
  ·have h1 : ¬ d.kind = 1 := by omega
   by_cases o14 : d.op = 14
   ·simp -implicitDefEqProofs (disch := omega) only [go_sem, Qr, ↓reduceIte, reduceCtorEq, rA, rq, rL, rT, Int.reduceEq, zA, aZ, decide_true, nT, nF, lR, beq_self_eq_true, Qa, QB, Qbb, Qh, lA, lC, lN, aA, cA, nA, tZ, true_implies, true_and, and_true, Nd.cells, hk, o14]
    exact ⟨by omega, t' + 1, by omega, rfl⟩
   by_cases o15 : d.op = 15
   ·simp -implicitDefEqProofs (disch := omega) only [go_sem, Qr, ↓reduceIte, reduceCtorEq, rA, rq, rL, rT, Int.reduceEq, zA, aZ, decide_true, nT, nF, lR, beq_self_eq_true, Qa, QB, Qbb, Qh, lA, lC, lN, aA, cA, nA, tZ, false_implies, true_implies, true_and, and_true, not_false_eq_true, Nd.cells, hk, o15]
    exact ⟨by omega, t' + 1, by omega, rfl⟩
   by_cases o16 : d.op = 16
   ·simp -implicitDefEqProofs (disch := omega) only [go_sem, Qr, ↓reduceIte, reduceCtorEq, rA, rq, rL, rT, Int.reduceEq, zA, aZ, decide_true, nT, nF, lR, beq_self_eq_true, Qa, QB, Qbb, Qh, lA, lC, lN, aA, cA, nA, tZ, false_implies, true_implies, true_and, and_true, not_false_eq_true, Nd.cells, hk, o16]
    exact ⟨by omega, t' + 1, by omega, rfl⟩
   ·simp -implicitDefEqProofs (disch := omega) only [go_sem, Qr, ↓reduceIte, reduceCtorEq, rA, rq, rL, rT, Int.reduceEq, zA, aZ, decide_false, nT, nF, lR, beq_self_eq_true, Qa, QB, Qbb, Qh, lA, lC, lN, aA, cA, nA, tSq, tZ, false_implies, true_implies, true_and, and_true, not_false_eq_true, Nd.cells, hk, o14, o15, o16]
    exact ⟨by omega, t' + 1, by omega, rfl⟩
  ·by_cases h1 : d.kind = 1
   ·have hi := QG2 (P := P) (G := G) hT [0, 1] (by simp) true d.n
    simp -implicitDefEqProofs (disch := omega) only [go_sem, Qr, ↓reduceIte, reduceCtorEq, rA, rq, rL, rT, Int.reduceEq, zA, aZ, nT, nF, lR, beq_self_eq_true, Qa, QB, Qbb, Qh, lA, lC, lN, aA, cA, nA, tSq, tZ, false_implies, true_implies, true_and, and_true, not_false_eq_true, Nd.cells, h1]
    refine Qd hT Z1 hi rfl 1000 ?_
    refine yM ?_
    exact ⟨by omega, by simp, t' + 1, by omega, rfl⟩
   ·simp -implicitDefEqProofs (disch := omega) only [go_sem, Qr, ↓reduceIte, reduceCtorEq, rA, rq, rL, rT, zA, aZ, decide_false, nT, nF, lR, Qa, QB, Qbb, Qh, lA, lC, lN, aA, cA, nA, tSq, tZ, false_implies, true_implies, true_and, and_true, not_false_eq_true, Nd.cells, hk, h1]
    exact ⟨by omega, t' + 1, by omega, rfl⟩
 ·have hx' : ¬ (0 ≤ x ∧ x < L.length) := hx
  have en : Yt L x = false := by simp [Yt, hx]
  rw [en, if_neg hx']
  refine yL ?_
  exact ⟨by omega, t' + 1, by omega, rfl⟩
def QsX (o : Option (Int × Int)) : V := match o with | some (u, v) => .tup [.int .i64 u, .int .i64 v, .bool true] | none => .tup [.int .i64 0, .int .i64 0, .bool false]
theorem QGr (hT : Qj P tab) {base : Nat} {fmt : Int → List UInt8} {v0 v1 v2 v3 v4 t : Nat} {L : List Nd} {ex : List (Option Ob)} {x op : Int} (hb : base ≤ 5 + ex.length) :
 C P G base Qe5 [mk v0, .int .i64 x, .int .u8 op] ⟨t, kG fmt v0 v1 v2 v3 v4 L ++ ex⟩ fun v σ => v = QsX (ofI L x op) ∧ ∃ t', t ≤ t' ∧ σ = ⟨t', kG fmt v0 v1 v2 v3 v4 L ++ ex⟩ := by
 refine Ql (5 + ex.length) hb (Qx hT XO (by simp [Z6]) (Qs 1000 ?_))
 simp -implicitDefEqProofs (disch := omega) only [go_sem, ↓reduceIte, reduceCtorEq, rA, rq, zA, aZ, lR, Z6, QzO, QzN, QzM, QzL, QzK, Qa, QB, lA, lC, lN, aA, true_implies, and_true]
 refine call hT Qu (Qfa hT) 1000 fun v σ hv => ?_
 obtain ⟨rfl, t', ht, rfl⟩ := hv
 by_cases hx : inG L x
 ·have hx' : 0 ≤ x ∧ x < L.length := hx
  have e : L.getD x.toNat zeroNd = nd L x := rfl
  rw [if_pos hx', e]
  by_cases hk : (nd L x).kind = 4
  ·by_cases ho : (nd L x).op = op
   ·have en : QsX (ofI L x op) = .tup [.int .i64 (nd L x).x, .int .i64 (nd L x).y, .bool true] := by rw [ofI, if_pos ⟨hx, hk, ho⟩]; rfl
    rw [en]
    generalize nd L x = d at *
    simp -implicitDefEqProofs (disch := omega) only [go_sem, Qr, ↓reduceIte, reduceCtorEq, rA, rq, rL, rT, zA, aZ, nF, lR, bne_self_eq_false, Qa, Qac, QbT, Qh, lA, lC, lN, aA, cA, nA, tZ, true_implies, true_and, and_true, Nd.cells, hk, ho, bne_self_eq_false]
    exact ⟨by omega, t' + 1, by omega, rfl⟩
   ·have en : QsX (ofI L x op) = .tup [.int .i64 0, .int .i64 0, .bool false] := by rw [ofI, if_neg fun h => ho h.2.2]; rfl
    rw [en]
    generalize nd L x = d at *
    simp -implicitDefEqProofs (disch := omega) only [go_sem, Qr, ↓reduceIte, reduceCtorEq, rA, rq, rL, rT, zA, aZ, nF, lR, bne_self_eq_false, Qa, Qac, QbT, Qh, lA, lC, lN, aA, cA, nA, tZ, false_implies, true_implies, true_and, and_true, not_false_eq_true, Nd.cells, hk, ho, bne_self_eq_false]
    exact ⟨by omega, t' + 1, by omega, rfl⟩
  ·have en : QsX (ofI L x op) = .tup [.int .i64 0, .int .i64 0, .bool false] := by rw [ofI, if_neg fun h => hk h.2.1]; rfl
   rw [en]
   generalize nd L x = d at *
   simp -implicitDefEqProofs (disch := omega) only [go_sem, Qr, ↓reduceIte, reduceCtorEq, rA, rq, rL, rT, zA, aZ, nF, lR, Qa, Qac, QbT, Qh, lA, lC, lN, aA, cA, nA, tZ, false_implies, true_implies, true_and, and_true, not_false_eq_true, Nd.cells, hk]
   exact ⟨by omega, t' + 1, by omega, rfl⟩
 ·have hx' : ¬ (0 ≤ x ∧ x < L.length) := hx
  have en : QsX (ofI L x op) = .tup [.int .i64 0, .int .i64 0, .bool false] := by rw [ofI, if_neg fun h => hx h.1]; rfl
  rw [en, if_neg hx']
  simp -implicitDefEqProofs (disch := omega) only [go_sem, Qr, ↓reduceIte, reduceCtorEq, rA, rq, rL, rT, Int.reduceEq, zA, aZ, nF, lR, Qa, Qac, QbT, Qh, lA, lC, lN, aA, cA, nA, tZ, false_implies, true_implies, true_and, and_true, not_false_eq_true, Nd.cells, zeroNd]
  exact ⟨by omega, t' + 1, by omega, rfl⟩
def tailV (L : List Nd) (x op : Int) : V → Prop := fun v => (∃ y d, Xw L x op = some (y, d) ∧ v = .tup [.int .i64 y, .int .i64 d, .bool true]) ∨ (Xw L x op = none ∧ ∃ y d, v = .tup [.int .i64 y, .int .i64 d, .bool false])
theorem QlH (hT : Qj P tab) {base : Nat} {fmt : Int → List UInt8} {v0 v1 v2 v3 v4 t : Nat} {L : List Nd} {ex : List (Option Ob)} {x op : Int} (hb : base ≤ 5 + ex.length) :
 C P G base QcY [mk v0, .int .i64 x, .int .u8 op] ⟨t, kG fmt v0 v1 v2 v3 v4 L ++ ex⟩ fun v σ => tailV L x op v ∧ ∃ t', t ≤ t' ∧ σ = ⟨t', kG fmt v0 v1 v2 v3 v4 L ++ ex⟩ := by
 refine Ql (5 + ex.length) hb (Qx hT XJ (by simp [Zb]) (Qs 1000 ?_))
 simp -implicitDefEqProofs (disch := omega) only [go_sem, ↓reduceIte, reduceCtorEq, rA, rq, zA, lR, Zb, QAG, QAF, QAE, QAD, QAC, QAB, Qa, QB, lA, lC, lN, aA, tSq, tN, false_implies, and_true]
 refine call hT XO (QGr hT (by simp; omega)) 1000 fun v σ hv => ?_
 obtain ⟨rfl, t1, ht1, rfl⟩ := hv
 cases ho : ofI L x op with
 | none =>
   have et : Xw L x op = none := by simp [Xw, ho]
   simp -implicitDefEqProofs (disch := omega) only [go_sem, ↓reduceIte, reduceCtorEq, rA, rq, rT, zA, nF, Qa, Qh, lA, lC, lN, and_true, QsX]
   exact ⟨by omega, .inr ⟨et, 0, 0, rfl⟩, t1, by omega, rfl⟩
 | some p =>
   obtain ⟨u, w⟩ := p
   simp -implicitDefEqProofs (disch := omega) only [go_sem, ↓reduceIte, reduceCtorEq, rA, rq, rT, zA, aZ, nT, lR, QB, lC, lN, true_implies, and_true, QsX]
   refine call hT Zg (QhA hT (by simp; omega)) 1000 fun v σ hv => ?_
   obtain ⟨rfl, t2, ht2, rfl⟩ := hv
   cases hn : QE L w with
   | none =>
     have et : Xw L x op = none := by simp [Xw, ho, hn]
     have ev : Qjh L w = .tup [.int .i64 0, .bool false] := by rw [Qjh, hn]
     rw [ev]
     refine yM ?_
     exact ⟨by omega, .inr ⟨et, u, 0, rfl⟩, t2, by omega, rfl⟩
   | some c =>
     have et : Xw L x op = some (u, c) := by simp [Xw, ho, hn]
     have ev : Qjh L w = .tup [.int .i64 c, .bool true] := by rw [Qjh, hn]
     rw [ev]
     refine yM ?_
     exact ⟨by omega, .inl ⟨u, c, et, rfl⟩, t2, by omega, rfl⟩
theorem QD4 (hT : Qj P tab) (F : Fmt P G) {v0 v1 v2 v3 v4 t : Nat} {L : List Nd} {ex : List (Option Ob)} {op x : Int} (hL : L.length ≤ 1000000) :
 C P G 0 QcZ [mk v0, .int .u8 op, .int .i64 x] ⟨t, kG F.fmt v0 v1 v2 v3 v4 L ++ ex⟩ (Qbh F.fmt (ZI L op x) v0 v1 ex t) := by
 refine Ql (5 + ex.length) (zL _) (Qx hT QaT (by simp [XR]) (Qs 1000 ?_))
 have i0 : i64 0 := by unfold i64; omega
 have i1 : i64 1 := by unfold i64; omega
 by_cases h1 : op = 2 ∨ op = 10 ∨ op = 14 ∨ op = 15
 ·have e : ZI L op x = numN L 0 := by rw [ZI, if_pos h1]
  rw [e]
  rcases h1 with rfl | rfl | rfl | rfl <;> (
   refine yw ?_
   refine call hT Qo (Qdw hT F i0 hL) 1000 fun v σ hv => ?_
   obtain ⟨rfl, t', v2', v3', v4', ht, rfl⟩ := hv
   refine yd ?_
   first | exact ⟨by omega, rfl, t', v2', v3', v4', by omega, rfl⟩ | exact ⟨by omega, rfl, t', v2', v3', v4', by omega, rfl, rfl⟩ | exact ⟨by omega, t', v2', v3', v4', by omega, rfl⟩ | exact ⟨by omega, t', v2', v3', v4', by omega, rfl, rfl⟩)
 ·have n1 : ¬ op = 2 := by omega
  have n2 : ¬ op = 10 := by omega
  have n3 : ¬ op = 14 := by omega
  have n4 : ¬ op = 15 := by omega
  by_cases h2 : op = 16
  ·have e : ZI L op x = numN L 1 := by rw [ZI, if_neg h1, if_pos h2]
   rw [e]
   simp -implicitDefEqProofs (disch := omega) only [go_sem, ↓reduceIte, reduceCtorEq, rA, rq, Int.reduceEq, zA, lR, beq_self_eq_true, XR, QnQ, QnP, QnO, QnN, QnM, QnL, QnK, QnJ, QnI, QnH, QjU, QjT, QjS, Qa, QB, lA, lC, lN, aA, tSq, tN, false_implies, true_implies, true_and, and_true, not_false_eq_true, h2]
   refine call hT Qo (Qdw hT F i1 hL) 1000 fun v σ hv => ?_
   obtain ⟨rfl, t', v2', v3', v4', ht, rfl⟩ := hv
   refine yd ?_
   first | exact ⟨by omega, rfl, t', v2', v3', v4', by omega, rfl⟩ | exact ⟨by omega, rfl, t', v2', v3', v4', by omega, rfl, rfl⟩ | exact ⟨by omega, t', v2', v3', v4', by omega, rfl⟩ | exact ⟨by omega, t', v2', v3', v4', by omega, rfl, rfl⟩
  ·by_cases h3 : op = 8 ∨ op = 9
   ·have e : ZI L op x = (x, L) := by rw [ZI, if_neg h1, if_neg h2, if_pos h3]
    rw [e]
    rcases h3 with rfl | rfl <;> (
     refine yw ?_
     first | exact ⟨by omega, rfl, t + 1, v2, v3, v4, by omega, rfl⟩ | exact ⟨by omega, rfl, t + 1, v2, v3, v4, by omega, rfl, rfl⟩ | exact ⟨by omega, t + 1, v2, v3, v4, by omega, rfl⟩ | exact ⟨by omega, t + 1, v2, v3, v4, by omega, rfl, rfl⟩)
   ·have n5 : ¬ op = 8 := by omega
    have n6 : ¬ op = 9 := by omega
    have e : ZI L op x = (-1, L) := by rw [ZI, if_neg h1, if_neg h2, if_neg h3]
    rw [e]
    simp -implicitDefEqProofs (disch := omega) only [go_sem, ↓reduceIte, reduceCtorEq, rA, rq, zA, lR, XR, QnQ, QnP, QnO, QnN, QnM, QnL, QnK, QnJ, QnI, QnH, QjU, QjT, QjS, Qa, QB, Qh, lA, lC, lN, aA, tSq, tN, false_implies, true_implies, true_and, and_true, not_false_eq_true, n1, n2, n3, n4, h2, n5, n6]
    first | exact ⟨by omega, rfl, t + 1, v2, v3, v4, by omega, rfl⟩ | exact ⟨by omega, rfl, t + 1, v2, v3, v4, by omega, rfl, rfl⟩ | exact ⟨by omega, t + 1, v2, v3, v4, by omega, rfl⟩ | exact ⟨by omega, t + 1, v2, v3, v4, by omega, rfl, rfl⟩
theorem ops16 {op : Int} (h : 1 ≤ op ∧ op ≤ 16) : op = 1 ∨ op = 2 ∨ op = 3 ∨ op = 4 ∨ op = 5 ∨ op = 6 ∨ op = 7 ∨ op = 8 ∨ op = 9 ∨ op = 10 ∨ op = 11 ∨ op = 12 ∨ op = 13 ∨ op = 14 ∨ op = 15 ∨ op = 16 := by omega
theorem w_of (hT : Qj P tab) {op : Int} (h : 1 ≤ op ∧ op ≤ 16) : ∃ f, Pure P G Q3 [.int .u8 op] fun v => v = fact f (QaK op) (XB op) ((QQ op).getD 0) (QQ op).isSome := by
 rcases ops16 h with rfl | rfl | rfl | rfl | rfl | rfl | rfl | rfl | rfl | rfl | rfl | rfl | rfl | rfl | rfl | rfl
 ·exact ⟨_, of_1 hT⟩
 ·exact ⟨_, of_2 hT⟩
 ·exact ⟨_, of_3 hT⟩
 ·exact ⟨_, of_4 hT⟩
 ·exact ⟨_, of_5 hT⟩
 ·exact ⟨_, of_6 hT⟩
 ·exact ⟨_, of_7 hT⟩
 ·exact ⟨_, of_8 hT⟩
 ·exact ⟨_, of_9 hT⟩
 ·exact ⟨_, QGc hT⟩
 ·exact ⟨_, QGb hT⟩
 ·exact ⟨_, QGa hT⟩
 ·exact ⟨_, QF9 hT⟩
 ·exact ⟨_, QF8 hT⟩
 ·exact ⟨_, QF7 hT⟩
 ·exact ⟨_, QF6 hT⟩
theorem Qxk (hT : Qj P tab) {op : Int} (h : 1 ≤ op ∧ op ≤ 16) : Pure P G Qi5 [.int .u8 op] fun v => v = .bool (QaK op) := by
 intro t
 obtain ⟨f, hf⟩ := w_of (P := P) (G := G) hT h
 refine Ql 0 (zL _) (Qx hT Qa3 (by simp [QcN]) (Qs 1000 ?_))
 simp -implicitDefEqProofs (disch := omega) only [go_sem, ↓reduceIte, reduceCtorEq, rq, QcN, zqc_0, zqc_1]
 refine Qd hT QV hf rfl 1000 ?_
 exact yt
theorem Qsz (hT : Qj P tab) {op : Int} (h : 1 ≤ op ∧ op ≤ 16) : Pure P G Qht [.int .u8 op] fun v => v = .bool (XB op) := by
 intro t
 obtain ⟨f, hf⟩ := w_of (P := P) (G := G) hT h
 refine Ql 0 (zL _) (Qx hT Qdn (by simp [Qbz]) (Qs 1000 ?_))
 simp -implicitDefEqProofs (disch := omega) only [go_sem, ↓reduceIte, reduceCtorEq, rq, Qbz, zqd_0, zqd_1]
 refine Qd hT QV hf rfl 1000 ?_
 exact yt
theorem Qxn (hT : Qj P tab) {op : Int} (h : 1 ≤ op ∧ op ≤ 16) : Pure P G Qi7 [.int .u8 op] fun v => v = .tup [.int .i64 ((QQ op).getD 0), .bool (QQ op).isSome] := by
 intro t
 obtain ⟨f, hf⟩ := w_of (P := P) (G := G) hT h
 refine Ql 0 (zL _) (Qx hT QeK (by simp [QcP]) (Qs 1000 ?_))
 simp -implicitDefEqProofs (disch := omega) only [go_sem, ↓reduceIte, reduceCtorEq, rq, QcP, zqe_0, zqe_1]
 refine Qd hT QV hf rfl 1000 ?_
 simp -implicitDefEqProofs (disch := omega) only [go_sem, ↓reduceIte, reduceCtorEq, rA, rq, rL, zA, fact, lN, lC, true_implies, and_true]
 refine Qd hT QV hf rfl 1000 ?_
 exact yt
structure Bits (P : Program) (G : Nat → Option V) : Prop where
 power : ∀ c, i64 c → Pure P G Qi6 [.int .i64 c] fun v => v = match QeS c with | some k => .tup [.int .i64 (k : Nat), .bool true] | none => .tup [.int .i64 0, .bool false]
def Qzr (P : Program) (G : Nat → Option V) (fmt : Int → List UInt8) (bin : ZR) : Prop := ∀ (L : List Nd) (op x y : Int) (r : GR) (v0 v1 v2 v3 v4 t : Nat) (ex : List (Option Ob)), okN L → inG L x → inG L y → (1 ≤ op ∧ op ≤ 16) → r.2.length ≤ 1000000 → bin L op x y = some r →
 C P G 0 Qd3 [mk v0, .int .u8 op, .int .i64 x, .int .i64 y] ⟨t, kG fmt v0 v1 v2 v3 v4 L ++ ex⟩ (Qbh fmt r v0 v1 ex t)
theorem Qgo {L L' : List Nd} (h : L <+: L') : L.length ≤ L'.length := h.length_le
theorem Yc {bin : ZR} (hK : Yy [] [] bin) {L : List Nd} (hok : okN L) {op x n : Int} (hx : inG L x) (ho : 1 ≤ op ∧ op ≤ 16) (hn : i64 n) {r : GR} (h : withN bin L op x n = some r) :
 okN (numN L n).2 ∧ inG (numN L n).2 x ∧ inG (numN L n).2 (numN L n).1 ∧ (numN L n).2.length ≤ r.2.length ∧ L.length ≤ r.2.length ∧ okN r.2 ∧ L <+: r.2 := by
 obtain ⟨h1, h2⟩ := Qa0 (S := []) (C := []) hok hn
 obtain ⟨h3, h4⟩ := h1.val h2
 obtain ⟨g1, g2⟩ := XF h1.pre hx
 obtain ⟨k1, k2⟩ := hK _ _ _ _ _ h1.ok g1 h3 ho h
 have l1 := Qgo k1.pre
 have l2 := Qgo h1.pre
 exact ⟨h1.ok, g1, h3, l1, by omega, k1.ok, h1.pre.trans k1.pre⟩
theorem wop {op : Int} (ho : 1 ≤ op ∧ op ≤ 16) : IntKind.i64.wrap op = op := wrap_i64 (by omega) (by omega)
theorem QGu (hT : Qj P tab) (F : Fmt P G) {v0 v1 v2 v3 v4 t : Nat} {L : List Nd} {ex : List (Option Ob)} {op x c : Int} (ho : 1 ≤ op ∧ op ≤ 16) (hL : L.length ≤ 1000000) :
 C P G 0 XV [mk v0, .int .u8 op, .int .i64 x, .int .i64 c] ⟨t, kG F.fmt v0 v1 v2 v3 v4 L ++ ex⟩ (Qbh F.fmt (QT L op x c) v0 v1 ex t) := by
 refine Ql (5 + ex.length) (zL _) (Qx hT Qcg (by simp [YR]) (Qs 1000 ?_))
 have i0 : i64 0 := by unfold i64; omega
 have im : i64 (-1) := by unfold i64; omega
 have hkp := Qxn (P := P) (G := G) hT ho
 have hi1 := QG2 (P := P) (G := G) hT [3, 8, 15] (by simp) true op
 have hi2 := QG2 (P := P) (G := G) hT [5, 7] (by simp) true op
 have hw := wop ho
 simp -implicitDefEqProofs (disch := omega) only [go_sem, ↓reduceIte, reduceCtorEq, rA, rq, zA, YR, QAq, QAp, QAo, QAn, QAm, QAl, QAk, QAj, QAi, QAh, Quu, Qa, lA, aA, and_true]
 refine Qd hT QeK hkp rfl 1000 ?_
 by_cases h1 : QQ op = some c
 ·have e : QT L op x c = (x, L) := by rw [QT, if_pos h1]
  rw [e, h1]
  refine yd ?_
  first | exact ⟨by omega, rfl, t + 1, v2, v3, v4, by omega, rfl⟩ | exact ⟨by omega, rfl, t + 1, v2, v3, v4, by omega, rfl, rfl⟩ | exact ⟨by omega, t + 1, v2, v3, v4, by omega, rfl⟩ | exact ⟨by omega, t + 1, v2, v3, v4, by omega, rfl, rfl⟩
 ·have hq : (QQ op).isSome = true → ¬ c = (QQ op).getD 0 := fun h e => by
   obtain ⟨k, hk⟩ := Option.isSome_iff_exists.1 h
   rw [hk] at e h1
   exact h1 (by rw [e]; rfl)
  generalize (QQ op).isSome = b at *
  generalize (QQ op).getD 0 = k at *
  have hstep : (b = false ∧ True) ∨ (b = true ∧ ¬ c = k) := by cases b; exact .inl ⟨rfl, trivial⟩; exact .inr ⟨rfl, hq rfl⟩
  by_cases h2 : (op = 3 ∨ op = 8 ∨ op = 15) ∧ c = 0
  ·have e : QT L op x c = numN L 0 := by rw [QT, if_neg h1, if_pos h2]
   have hd : decide (op ∈ [(3 : Int), 8, 15]) = true := by simpa using h2.1
   have hc0 := h2.2
   rw [hd] at hi1
   rw [e]
   rcases hstep with ⟨rfl, hck⟩ | ⟨rfl, hck⟩ <;> (
    refine yp ?_
    refine Qd hT Z1 hi1 rfl 1000 ?_
    simp -implicitDefEqProofs (disch := omega) only [go_sem, Qr, ↓reduceIte, reduceCtorEq, rA, rq, zA, lR, beq_self_eq_true, QB, lC, lN, tSq, tN, false_implies, and_true, hc0]
    refine call hT Qo (Qdw hT F i0 hL) 1000 fun v σ hv => ?_
    obtain ⟨rfl, t', v2', v3', v4', ht, rfl⟩ := hv
    refine yd ?_
    first | exact ⟨by omega, rfl, t', v2', v3', v4', by omega, rfl⟩ | exact ⟨by omega, rfl, t', v2', v3', v4', by omega, rfl, rfl⟩ | exact ⟨by omega, t', v2', v3', v4', by omega, rfl⟩ | exact ⟨by omega, t', v2', v3', v4', by omega, rfl, rfl⟩)
  ·have hd1 : (decide (op ∈ [(3 : Int), 8, 15]) = false ∧ True) ∨ (decide (op ∈ [(3 : Int), 8, 15]) = true ∧ ¬ c = 0) := by
    by_cases h : op = 3 ∨ op = 8 ∨ op = 15
    ·exact .inr ⟨by simpa using h, fun hc => h2 ⟨h, hc⟩⟩
    ·exact .inl ⟨by simpa using h, trivial⟩
   generalize decide (op ∈ [(3 : Int), 8, 15]) = d1 at *
   by_cases h3 : op = 9 ∧ c = -1
   ·have e : QT L op x c = numN L (-1) := by rw [QT, if_neg h1, if_neg h2, if_pos h3]
    rw [e]
    obtain ⟨h9, hcm⟩ := h3
    have hcn : ¬ (-1 : Int) = 0 := by omega
    rcases hstep with ⟨rfl, hck⟩ | ⟨rfl, hck⟩ <;> rcases hd1 with ⟨rfl, hc0⟩ | ⟨rfl, hc0⟩ <;> (
     refine yp ?_
     refine Qd hT Z1 hi1 rfl 1000 ?_
     simp -implicitDefEqProofs (disch := omega) only [go_sem, Qr, ↓reduceIte, reduceCtorEq, rA, rq, zA, lR, beq_self_eq_true, QB, lC, lN, tSq, tN, false_implies, true_implies, true_and, and_true, not_false_eq_true, h9, hcm, hcn]
     refine call hT Qo (Qdw hT F im hL) 1000 fun v σ hv => ?_
     obtain ⟨rfl, t', v2', v3', v4', ht, rfl⟩ := hv
     refine yd ?_
     first | exact ⟨by omega, rfl, t', v2', v3', v4', by omega, rfl⟩ | exact ⟨by omega, rfl, t', v2', v3', v4', by omega, rfl, rfl⟩ | exact ⟨by omega, t', v2', v3', v4', by omega, rfl⟩ | exact ⟨by omega, t', v2', v3', v4', by omega, rfl, rfl⟩)
   ·have h9 : (¬ op = 9 ∧ True) ∨ (op = 9 ∧ ¬ c = -1) := by
     by_cases h : op = 9
     ·exact .inr ⟨h, fun hc => h3 ⟨h, hc⟩⟩
     ·exact .inl ⟨h, trivial⟩
    by_cases h4 : (op = 5 ∨ op = 7) ∧ c = 1
    ·have e : QT L op x c = numN L 0 := by rw [QT, if_neg h1, if_neg h2, if_neg h3, if_pos h4]
     have hd : decide (op ∈ [(5 : Int), 7]) = true := by simpa using h4.1
     have hc1 := h4.2
     have ho9 : ¬ op = 9 := by omega
     rw [hd] at hi2
     rw [e]
     rcases hstep with ⟨rfl, hck⟩ | ⟨rfl, hck⟩ <;> rcases hd1 with ⟨rfl, hc0⟩ | ⟨rfl, hc0⟩ <;> (
      refine yp ?_
      refine Qd hT Z1 hi1 rfl 1000 ?_
      simp -implicitDefEqProofs (disch := omega) only [go_sem, Qr, ↓reduceIte, reduceCtorEq, rA, rq, rL, zA, lR, QB, lC, lN, cA, nA, tSq, tZ, tN, false_implies, true_implies, true_and, and_true, not_false_eq_true, hc0, ho9, hw]
      refine Qd hT Z1 hi2 rfl 1000 ?_
      simp -implicitDefEqProofs (disch := omega) only [go_sem, Qr, ↓reduceIte, reduceCtorEq, rA, rq, zA, lR, beq_self_eq_true, QB, lC, lN, tSq, tN, false_implies, and_true, hc1]
      refine call hT Qo (Qdw hT F i0 hL) 1000 fun v σ hv => ?_
      obtain ⟨rfl, t', v2', v3', v4', ht, rfl⟩ := hv
      refine yd ?_
      first | exact ⟨by omega, rfl, t', v2', v3', v4', by omega, rfl⟩ | exact ⟨by omega, rfl, t', v2', v3', v4', by omega, rfl, rfl⟩ | exact ⟨by omega, t', v2', v3', v4', by omega, rfl⟩ | exact ⟨by omega, t', v2', v3', v4', by omega, rfl, rfl⟩)
    ·have hd2 : (decide (op ∈ [(5 : Int), 7]) = false ∧ True) ∨ (decide (op ∈ [(5 : Int), 7]) = true ∧ ¬ c = 1) := by
      by_cases h : op = 5 ∨ op = 7
      ·exact .inr ⟨by simpa using h, fun hc => h4 ⟨h, hc⟩⟩
      ·exact .inl ⟨by simpa using h, trivial⟩
     generalize decide (op ∈ [(5 : Int), 7]) = d2 at *
     have e : QT L op x c = (-1, L) := by rw [QT, if_neg h1, if_neg h2, if_neg h3, if_neg h4]
     rw [e]
     rcases hstep with ⟨rfl, hck⟩ | ⟨rfl, hck⟩ <;> rcases hd1 with ⟨rfl, hc0⟩ | ⟨rfl, hc0⟩ <;> rcases h9 with ⟨ho9, hcm⟩ | ⟨ho9, hcm⟩ <;> rcases hd2 with ⟨rfl, hc1⟩ | ⟨rfl, hc1⟩ <;> (
      refine yp ?_
      refine Qd hT Z1 hi1 rfl 1000 ?_
      simp -implicitDefEqProofs (disch := omega) only [go_sem, Qr, ↓reduceIte, reduceCtorEq, rA, rq, rL, zA, lR, beq_self_eq_true, QB, lC, lN, cA, nA, tSq, tZ, tN, false_implies, true_implies, true_and, and_true, not_false_eq_true, hc0, ho9, hcm, hw]
      first | refine Qd hT Z1 hi2 rfl 1000 ?_ | (rw [ho9] at hi2; refine Qd hT Z1 hi2 rfl 1000 ?_)
      refine yE ?_
      first | exact ⟨by omega, rfl, t + 1, v2, v3, v4, by omega, rfl⟩ | exact ⟨by omega, rfl, t + 1, v2, v3, v4, by omega, rfl, rfl⟩ | exact ⟨by omega, t + 1, v2, v3, v4, by omega, rfl⟩ | exact ⟨by omega, t + 1, v2, v3, v4, by omega, rfl, rfl⟩)
theorem QGs (hT : Qj P tab) (F : Fmt P G) (hP : Bits P G) {bin : ZR} (hK : Yy [] [] bin) (hB : Qzr P G F.fmt bin) {v0 v1 v2 v3 v4 t : Nat} {L : List Nd} {ex : List (Option Ob)} {op x c : Int} (hok : okN L) (hx' : inG L x) (ho : 1 ≤ op ∧ op ≤ 16) (hc : i64 c) {r : GR} (hr : r.2.length ≤ 1000000) (h : Xm bin L op x c = some r) :
 C P G 0 XU [mk v0, .int .u8 op, .int .i64 x, .int .i64 c] ⟨t, kG F.fmt v0 v1 v2 v3 v4 L ++ ex⟩ (Qbh F.fmt r v0 v1 ex t) := by
 refine Ql (5 + ex.length) (zL _) (Qx hT Qcf (by simp [YQ]) (Qs 1000 ?_))
 have hpw := hP.power c hc
 have i0 : i64 0 := by unfold i64; omega
 have en : IntKind.i64.wrap (0 - c) = IntKind.i64.wrap (-c) := by rw [Int.zero_sub]
 have e63 := QhV c
 have hm64 : i64 (c % 64) := by unfold i64; omega
 have esh : IntKind.i64.wrap (1 * 2 ^ min (c % 64).toNat 64) = IntKind.i64.wrap (2 ^ (c % 64).toNat) := by rw [Int.one_mul, Nat.min_eq_left (by omega)]
 have h640 : 0 ≤ c % 64 := by omega
 simp -implicitDefEqProofs (disch := omega) only [go_sem, ↓reduceIte, reduceCtorEq, rA, rq, zA, YQ, QAg, QAf, QAe, QAd, QAc, QAb, QAa, Qz9, Qz8, Qz7, Qut, Qus, Qur, Quq, Qup, Qa, lA, aA, and_true]
 refine Qd hT Qi0 hpw (by rfl) 1000 ?_
 unfold Xm at h
 split at h
 ·rename_i h1
  subst h1
  cases QeS c <;> (
   simp -implicitDefEqProofs (disch := omega) only [go_sem, ↓reduceIte, reduceCtorEq, rA, rq, rT, zA, lR, beq_self_eq_true, QB, lC, lN, tSq, tN, false_implies, and_true, en]
   obtain ⟨p1, p2, p3, p4, p5, _, _⟩ := Yc hK hok hx' (by omega) (Qq _) h
   (repeat' (first | with_reducible refine And.intro ?_ ?_ | with_reducible intro _)) <;> (
    refine call hT Qo (Qdw hT F (Qq _) (by omega)) 1000 fun v σ hv => ?_
    obtain ⟨rfl, t', v2', v3', v4', ht, rfl⟩ := hv
    refine yf ?_
    (repeat' (first | with_reducible refine And.intro ?_ ?_ | with_reducible intro _)) <;> (
     refine call hT Qy (hB _ _ _ _ _ _ _ _ _ _ _ _ p1 p2 p3 (by omega) hr h) 1000 fun v σ hv => ?_
     obtain ⟨rfl, t2, w2, w3, w4, ht2, rfl⟩ := hv
     refine yd ?_
     first | exact ⟨by omega, rfl, t2, w2, w3, w4, by omega, rfl⟩ | exact ⟨by omega, rfl, t2, w2, w3, w4, by omega, rfl, rfl⟩ | exact ⟨by omega, t2, w2, w3, w4, by omega, rfl⟩ | exact ⟨by omega, t2, w2, w3, w4, by omega, rfl, rfl⟩)))
 ·rename_i h1
  split at h
  ·rename_i h2
   subst h2
   cases QeS c <;> (
    simp -implicitDefEqProofs (disch := omega) only [go_sem, ↓reduceIte, reduceCtorEq, rA, rq, rT, Int.reduceEq, zA, lR, beq_self_eq_true, QB, lC, lN, tSq, tN, false_implies, true_implies, true_and, and_true, not_false_eq_true, e63, esh, h640]
    obtain ⟨p1, p2, p3, p4, p5, _, _⟩ := Yc hK hok hx' (by omega) (Qq _) h
    (repeat' (first | with_reducible refine And.intro ?_ ?_ | with_reducible intro _)) <;> (
     refine call hT Qo (Qdw hT F (Qq _) (by omega)) 1000 fun v σ hv => ?_
     obtain ⟨rfl, t', v2', v3', v4', ht, rfl⟩ := hv
     refine yf ?_
     (repeat' (first | with_reducible refine And.intro ?_ ?_ | with_reducible intro _)) <;> (
      refine call hT Qy (hB _ _ _ _ _ _ _ _ _ _ _ _ p1 p2 p3 (by omega) hr h) 1000 fun v σ hv => ?_
      obtain ⟨rfl, t2, w2, w3, w4, ht2, rfl⟩ := hv
      refine yd ?_
      first | exact ⟨by omega, rfl, t2, w2, w3, w4, by omega, rfl⟩ | exact ⟨by omega, rfl, t2, w2, w3, w4, by omega, rfl, rfl⟩ | exact ⟨by omega, t2, w2, w3, w4, by omega, rfl⟩ | exact ⟨by omega, t2, w2, w3, w4, by omega, rfl, rfl⟩)))
  ·rename_i h2
   split at h
   ·rename_i h3
    obtain ⟨ho12, hcm⟩ := h3
    rcases ho12 with rfl | rfl <;> cases QeS c <;> (
     simp -implicitDefEqProofs (disch := omega) only [go_sem, Qr, ↓reduceIte, reduceCtorEq, rA, rq, rT, Int.reduceEq, zA, lR, beq_self_eq_true, Qa, QB, Qh, lA, lC, lN, tSq, tN, false_implies, true_implies, true_and, and_true, not_false_eq_true, e63, hcm]
     obtain ⟨p1, p2, p3, p4, p5, _, _⟩ := Yc hK hok hx' (by omega) hm64 h
     (repeat' (first | with_reducible refine And.intro ?_ ?_ | with_reducible intro _)) <;> (
      refine call hT Qo (Qdw hT F hm64 (by omega)) 1000 fun v σ hv => ?_
      obtain ⟨rfl, t', v2', v3', v4', ht, rfl⟩ := hv
      refine yf ?_
      (repeat' (first | with_reducible refine And.intro ?_ ?_ | with_reducible intro _)) <;> (
       refine call hT Qy (hB _ _ _ _ _ _ _ _ _ _ _ _ p1 p2 p3 (by omega) hr h) 1000 fun v σ hv => ?_
       obtain ⟨rfl, t2, w2, w3, w4, ht2, rfl⟩ := hv
       refine yd ?_
       first | exact ⟨by omega, rfl, t2, w2, w3, w4, by omega, rfl⟩ | exact ⟨by omega, rfl, t2, w2, w3, w4, by omega, rfl, rfl⟩ | exact ⟨by omega, t2, w2, w3, w4, by omega, rfl⟩ | exact ⟨by omega, t2, w2, w3, w4, by omega, rfl, rfl⟩)))
   ·rename_i h3
    have hA : (¬ op = 12 ∧ ¬ op = 13) ∨ ((op = 12 ∨ op = 13) ∧ c = c % 64) := by
     by_cases a : op = 12 ∨ op = 13
     ·exact .inr ⟨a, Decidable.byContradiction fun hn => h3 ⟨a, hn⟩⟩
     ·exact .inl ⟨fun e => a (.inl e), fun e => a (.inr e)⟩
    split at h
    ·rename_i h4
     obtain ⟨rfl, h4⟩ := h4
     obtain ⟨k, hk⟩ := Option.isSome_iff_exists.1 h4
     have hk2 := (Yf hk).1
     have hik : i64 ((k : Nat) : Int) := by unfold i64; omega
     rw [hk] at h ⊢
     refine yv ?_
     obtain ⟨p1, p2, p3, p4, p5, _, _⟩ := Yc hK hok hx' (by omega) hik h
     (repeat' (first | with_reducible refine And.intro ?_ ?_ | with_reducible intro _)) <;> (
      refine call hT Qo (Qdw hT F hik (by omega)) 1000 fun v σ hv => ?_
      obtain ⟨rfl, t', v2', v3', v4', ht, rfl⟩ := hv
      refine yf ?_
      (repeat' (first | with_reducible refine And.intro ?_ ?_ | with_reducible intro _)) <;> (
       refine call hT Qy (hB _ _ _ _ _ _ _ _ _ _ _ _ p1 p2 p3 (by omega) hr h) 1000 fun v σ hv => ?_
       obtain ⟨rfl, t2, w2, w3, w4, ht2, rfl⟩ := hv
       refine yd ?_
       first | exact ⟨by omega, rfl, t2, w2, w3, w4, by omega, rfl⟩ | exact ⟨by omega, rfl, t2, w2, w3, w4, by omega, rfl, rfl⟩ | exact ⟨by omega, t2, w2, w3, w4, by omega, rfl⟩ | exact ⟨by omega, t2, w2, w3, w4, by omega, rfl, rfl⟩))
    ·rename_i h4
     split at h
     ·rename_i h5
      obtain ⟨rfl, h5⟩ := h5
      obtain ⟨k, hk⟩ := Option.isSome_iff_exists.1 h5
      rw [hk]
      refine yv ?_
      obtain ⟨p1, p2, p3, p4, p5, _, _⟩ := Yc hK hok hx' (by omega) (Qq _) h
      (repeat' (first | with_reducible refine And.intro ?_ ?_ | with_reducible intro _)) <;> (
       refine call hT Qo (Qdw hT F (Qq _) (by omega)) 1000 fun v σ hv => ?_
       obtain ⟨rfl, t', v2', v3', v4', ht, rfl⟩ := hv
       refine yf ?_
       (repeat' (first | with_reducible refine And.intro ?_ ?_ | with_reducible intro _)) <;> (
        refine call hT Qy (hB _ _ _ _ _ _ _ _ _ _ _ _ p1 p2 p3 (by omega) hr h) 1000 fun v σ hv => ?_
        obtain ⟨rfl, t2, w2, w3, w4, ht2, rfl⟩ := hv
        refine yd ?_
        first | exact ⟨by omega, rfl, t2, w2, w3, w4, by omega, rfl⟩ | exact ⟨by omega, rfl, t2, w2, w3, w4, by omega, rfl, rfl⟩ | exact ⟨by omega, t2, w2, w3, w4, by omega, rfl⟩ | exact ⟨by omega, t2, w2, w3, w4, by omega, rfl, rfl⟩))
     ·rename_i h5
      split at h
      ·rename_i h6
       obtain ⟨rfl, rfl⟩ := h6
       cases QeS 1 <;> (
        refine yv ?_
        obtain ⟨p1, p2, p3, p4, p5, _, _⟩ := Yc hK hok hx' (by omega) i0 h
        (repeat' (first | with_reducible refine And.intro ?_ ?_ | with_reducible intro _)) <;> (
         refine call hT Qo (Qdw hT F i0 (by omega)) 1000 fun v σ hv => ?_
         obtain ⟨rfl, t', v2', v3', v4', ht, rfl⟩ := hv
         refine yf ?_
         (repeat' (first | with_reducible refine And.intro ?_ ?_ | with_reducible intro _)) <;> (
          refine call hT Qy (hB _ _ _ _ _ _ _ _ _ _ _ _ p1 p2 p3 (by omega) hr h) 1000 fun v σ hv => ?_
          obtain ⟨rfl, t2, w2, w3, w4, ht2, rfl⟩ := hv
          refine yd ?_
          first | exact ⟨by omega, rfl, t2, w2, w3, w4, by omega, rfl⟩ | exact ⟨by omega, rfl, t2, w2, w3, w4, by omega, rfl, rfl⟩ | exact ⟨by omega, t2, w2, w3, w4, by omega, rfl⟩ | exact ⟨by omega, t2, w2, w3, w4, by omega, rfl, rfl⟩)))
      ·rename_i h6
       cases h
       rcases hA with ⟨n12, n13⟩ | ⟨a12, hcm⟩
       ·by_cases a6 : op = 6
        ·subst a6
         have hpn : QeS c = none := by
          cases hp : QeS c with
          | none => rfl
          | some k => exact absurd ⟨rfl, by simp [hp]⟩ h4
         rw [hpn]
         refine yD ?_
         first | exact ⟨by omega, rfl, t + 1, v2, v3, v4, by omega, rfl⟩ | exact ⟨by omega, rfl, t + 1, v2, v3, v4, by omega, rfl, rfl⟩ | exact ⟨by omega, t + 1, v2, v3, v4, by omega, rfl⟩ | exact ⟨by omega, t + 1, v2, v3, v4, by omega, rfl, rfl⟩
        by_cases a7 : op = 7
        ·subst a7
         have hpn : QeS c = none := by
          cases hp : QeS c with
          | none => rfl
          | some k => exact absurd ⟨rfl, by simp [hp]⟩ h5
         rw [hpn]
         refine yD ?_
         first | exact ⟨by omega, rfl, t + 1, v2, v3, v4, by omega, rfl⟩ | exact ⟨by omega, rfl, t + 1, v2, v3, v4, by omega, rfl, rfl⟩ | exact ⟨by omega, t + 1, v2, v3, v4, by omega, rfl⟩ | exact ⟨by omega, t + 1, v2, v3, v4, by omega, rfl, rfl⟩
        by_cases a15 : op = 15
        ·subst a15
         have hc1 : ¬ c = 1 := fun e => h6 ⟨rfl, e⟩
         cases QeS c <;> (
          refine yE ?_
          first | exact ⟨by omega, rfl, t + 1, v2, v3, v4, by omega, rfl⟩ | exact ⟨by omega, rfl, t + 1, v2, v3, v4, by omega, rfl, rfl⟩ | exact ⟨by omega, t + 1, v2, v3, v4, by omega, rfl⟩ | exact ⟨by omega, t + 1, v2, v3, v4, by omega, rfl, rfl⟩)
        ·cases QeS c <;> (
          simp -implicitDefEqProofs (disch := omega) only [go_sem, Qr, ↓reduceIte, reduceCtorEq, rA, rq, rT, zA, lR, Qa, QB, Qh, lA, lC, lN, tSq, tN, false_implies, true_implies, true_and, and_true, not_false_eq_true, h1, h2, n12, n13, a6, a7, a15]
          first | exact ⟨by omega, rfl, t + 1, v2, v3, v4, by omega, rfl⟩ | exact ⟨by omega, rfl, t + 1, v2, v3, v4, by omega, rfl, rfl⟩ | exact ⟨by omega, t + 1, v2, v3, v4, by omega, rfl⟩ | exact ⟨by omega, t + 1, v2, v3, v4, by omega, rfl, rfl⟩)
       ·have e63' : QaO .i64 c 63 = c := by rw [e63]; exact hcm.symm
        rcases a12 with rfl | rfl <;> cases QeS c <;> (
         simp -implicitDefEqProofs (disch := omega) only [go_sem, Qr, ↓reduceIte, reduceCtorEq, rA, rq, rT, Int.reduceEq, zA, lR, beq_self_eq_true, bne_self_eq_false, Qa, QB, Qh, lA, lC, lN, tSq, tN, false_implies, true_implies, true_and, and_true, not_false_eq_true, e63', bne_self_eq_false]
         first | exact ⟨by omega, rfl, t + 1, v2, v3, v4, by omega, rfl⟩ | exact ⟨by omega, rfl, t + 1, v2, v3, v4, by omega, rfl, rfl⟩ | exact ⟨by omega, t + 1, v2, v3, v4, by omega, rfl⟩ | exact ⟨by omega, t + 1, v2, v3, v4, by omega, rfl, rfl⟩)
end Go.Proofs.YtpdeoalocejodaaGreatDoor
