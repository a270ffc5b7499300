/- Terms made plain: Bin and Not. -/
import Derived.Test.YtpdeoalocejodaaGreatDoorJ9
import Derived.KernelRfl
open Nat renaming reduceEqDiff → rq, reduceAdd → rA, reduceLeDiff → rL, reduceLT → rT, zero_add → zA, le_refl → lR, zero_le → zL, add_zero → aZ
open List renaming length_cons → lC, length_nil → lN, take_succ_cons → tSq, length_append → lA, nil_append → nA, cons_append → cA, append_assoc → aA, take_nil → tN, take_zero → tZ, length_map → lM
open Bool renaming not_false → nF, not_true → nT
namespace Go.Proofs.YtpdeoalocejodaaGreatDoor
open Go Go.Am
set_option maxRecDepth 100000
variable {P : Program} {G : Nat → Option V}
set_option maxHeartbeats 2000000
theorem QD3 (hT : Qj P tab) {op : Int} (h : Pure P G Q3 [.int .u8 op] fun v => v = fact (.val .nilFunc) false false 0 false) : Pure P G Qcl [.int .u8 op] fun v => v = .bool false := by
 intro t
 refine Ql 0 (zL _) (Qx hT QeJ (by simp [QaP]) (Qs 1000 ?_))
 simp -implicitDefEqProofs (disch := omega) only [go_sem, ↓reduceIte, reduceCtorEq, rq, QaP, Qvg, Qvf]
 refine Qd hT QV h rfl 1000 ?_
 exact yt
theorem QfI (hT : Qj P tab) {op n : Int} {f : Nat} {c1 c2 c3 : Bool} (h : Pure P G Q3 [.int .u8 op] fun v => v = fact (.fn (.func f) [] []) c1 c2 n c3) : Pure P G Qcl [.int .u8 op] fun v => v = .bool true := by
 intro t
 refine Ql 0 (zL _) (Qx hT QeJ (by simp [QaP]) (Qs 1000 ?_))
 simp -implicitDefEqProofs (disch := omega) only [go_sem, ↓reduceIte, reduceCtorEq, rq, QaP, Qvg, Qvf]
 refine Qd hT QV h rfl 1000 ?_
 exact yt
theorem QG6 (hT : Qj P tab) {op : Int} (h0 : 0 ≤ op) (h1 : op ≤ 255) : Pure P G Qcl [.int .u8 op] fun v => v = .bool (decide (1 ≤ op ∧ op ≤ 16)) := by
 by_cases hm : 17 ≤ op
 ·have e : decide (1 ≤ op ∧ op ≤ 16) = false := by simp; omega
  rw [e]
  exact QD3 hT (Qv7 hT hm h1)
 ·have : op = 0 ∨ op = 1 ∨ op = 2 ∨ op = 3 ∨ op = 4 ∨ op = 5 ∨ op = 6 ∨ op = 7 ∨ op = 8 ∨ op = 9 ∨ op = 10 ∨ op = 11 ∨ op = 12 ∨ op = 13 ∨ op = 14 ∨ op = 15 ∨ op = 16 := by omega
  rcases this with rfl | rfl | rfl | rfl | rfl | rfl | rfl | rfl | rfl | rfl | rfl | rfl | rfl | rfl | rfl | rfl | rfl
  ·exact QD3 hT (of_0 hT)
  ·exact QfI hT (of_1 hT)
  ·exact QfI hT (of_2 hT)
  ·exact QfI hT (of_3 hT)
  ·exact QfI hT (of_4 hT)
  ·exact QfI hT (of_5 hT)
  ·exact QfI hT (of_6 hT)
  ·exact QfI hT (of_7 hT)
  ·exact QfI hT (of_8 hT)
  ·exact QfI hT (of_9 hT)
  ·exact QfI hT (QGc hT)
  ·exact QfI hT (QGb hT)
  ·exact QfI hT (QGa hT)
  ·exact QfI hT (QF9 hT)
  ·exact QfI hT (QF8 hT)
  ·exact QfI hT (QF7 hT)
  ·exact QfI hT (QF6 hT)
def QiC (f : Nat) (L : List Nd) (op x y : Int) : Option GR := if inG L x ∧ inG L y ∧ (1 ≤ op ∧ op ≤ 16) then XM f L op x y else some (-1, L)
theorem QbU (hT : Qj P tab) (F : Fmt P G) (hP : Bits P G) (f : Nat) {v0 v1 v2 v3 v4 t : Nat} {L : List Nd} {ex : List (Option Ob)} {op x y : Int} (hok : okN L) (h0 : 0 ≤ op ∧ op ≤ 255) {r : GR} (hr : r.2.length ≤ 1000000) (h : QiC f L op x y = some r) :
 C P G 0 Qfz [.ptr 1 v0 0, .int .u8 op, .int .i64 x, .int .i64 y] ⟨t, kG F.fmt v0 v1 v2 v3 v4 L ++ ex⟩ (Qbh F.fmt r v0 v1 ex t) := by
 refine Ql (5 + ex.length) (zL _) (Qx hT Qe (by simp [Qdq]) (Qs 1000 ?_))
 have hkn := QG6 (P := P) (G := G) hT h0.1 h0.2
 unfold QiC at h
 simp -implicitDefEqProofs (disch := omega) only [go_sem, ↓reduceIte, reduceCtorEq, rA, rq, zA, Qdq, QE3, QE2, QE1, QE0, QEZ, QEY]
 refine call hT Qu (Qfa hT) 1000 fun v σ hv => ?_
 obtain ⟨rfl, t1, ht1, rfl⟩ := hv
 by_cases hx : inG L x
 ·have hx' : 0 ≤ x ∧ x < L.length := hx
  have e : L.getD x.toNat zeroNd = nd L x := rfl
  rw [if_pos hx', e]
  generalize nd L x = d at *
  refine yu ?_
  refine call hT Qu (Qfa hT) 1000 fun v σ hv => ?_
  obtain ⟨rfl, t2, ht2, rfl⟩ := hv
  by_cases hy : inG L y
  ·have hy' : 0 ≤ y ∧ y < L.length := hy
   have e : L.getD y.toNat zeroNd = nd L y := rfl
   rw [if_pos hy', e]
   generalize nd L y = d2 at *
   simp -implicitDefEqProofs (disch := omega) only [go_sem, ↓reduceIte, reduceCtorEq, rA, rq, rT, zA, nT, nF, lR, zL, Qa, Qac, QbT, lA, lC, lN, aA, cA, nA, tZ, and_true, Nd.cells]
   refine Qd hT QeJ hkn rfl 1000 ?_
   by_cases ho : 1 ≤ op ∧ op ≤ 16
   ·rw [if_pos ⟨hx, hy, ho⟩] at h
    have ed : decide (1 ≤ op ∧ op ≤ 16) = true := by simpa using ho
    rw [ed]
    simp -implicitDefEqProofs (disch := omega) only [go_sem, ↓reduceIte, reduceCtorEq, rA, rq, zA, nT, lR, lC, lN, cA, nA, tZ, and_true]
    refine call hT Qy (k_bin hT F hP f _ _ _ _ _ _ _ _ _ _ _ _ hok hx hy ho hr h) 1000 fun v σ hv => ?_
    obtain ⟨rfl, t4, w2, w3, w4, ht4, rfl⟩ := hv
    refine yd ?_
    exact ⟨by omega, rfl, t4, w2, w3, w4, by omega, rfl⟩
   ·rw [if_neg fun q => ho q.2.2] at h
    cases h
    have ed : decide (1 ≤ op ∧ op ≤ 16) = false := by simpa using ho
    rw [ed]
    refine yd ?_
    exact ⟨by omega, rfl, _, v2, v3, v4, by omega, rfl⟩
  ·have hy' : ¬ (0 ≤ y ∧ y < L.length) := hy
   rw [if_neg fun q => hy q.2.1] at h
   cases h
   rw [if_neg hy']
   refine yO ?_
   exact ⟨by omega, rfl, _, v2, v3, v4, by omega, rfl⟩
 ·have hx' : ¬ (0 ≤ x ∧ x < L.length) := hx
  rw [if_neg fun q => hx q.1] at h
  cases h
  rw [if_neg hx']
  simp -implicitDefEqProofs (disch := omega) only [go_sem, ↓reduceIte, reduceCtorEq, rA, rq, rT, zA, nF, lR, zL, Qa, QB, Qbb, lA, lC, lN, aA, cA, nA, tZ, and_true, Nd.cells, zeroNd]
  refine call hT Qu (Qfa hT) 1000 fun v σ hv => ?_
  obtain ⟨rfl, t2, ht2, rfl⟩ := hv
  by_cases hy : 0 ≤ y ∧ y < L.length
  ·rw [if_pos hy]
   generalize L.getD y.toNat zeroNd = d2 at *
   simp -implicitDefEqProofs (disch := omega) only [go_sem, ↓reduceIte, reduceCtorEq, rA, rq, rT, zA, nF, lR, zL, Qa, Qac, QbT, Qh, lA, lC, lN, aA, cA, nA, tZ, and_true, Nd.cells]
   exact ⟨by omega, rfl, _, v2, v3, v4, by omega, rfl⟩
  ·rw [if_neg hy]
   refine yO ?_
   exact ⟨by omega, rfl, _, v2, v3, v4, by omega, rfl⟩
def Qwb (f : Nat) (L : List Nd) (x : Int) : Option GR := if inG L x then QiC f (numN L 0).2 16 x (numN L 0).1 else some (-1, L)
theorem Qaj {f : Nat} {L : List Nd} (hok : okN L) {op x y : Int} {r : GR} (h : QiC f L op x y = some r) : L.length ≤ r.2.length ∧ okN r.2 ∧ L <+: r.2 := by
 unfold QiC at h
 split at h
 ·rename_i h1
  have k := (QkV f _ _ _ _ _ hok h1.1 h1.2.1 h1.2.2 h).1
  exact ⟨Qgo k.pre, k.ok, k.pre⟩
 ·cases h; exact ⟨lR _, hok, List.prefix_rfl⟩
theorem Qws (hT : Qj P tab) (F : Fmt P G) (hP : Bits P G) (f : Nat) {v0 v1 v2 v3 v4 t : Nat} {L : List Nd} {ex : List (Option Ob)} {x : Int} (hok : okN L) {r : GR} (hr : r.2.length ≤ 1000000) (h : Qwb f L x = some r) :
 C P G 0 Qid [.ptr 1 v0 0, .int .i64 x] ⟨t, kG F.fmt v0 v1 v2 v3 v4 L ++ ex⟩ (Qbh F.fmt r v0 v1 ex t) := by
 refine Ql (5 + ex.length) (zL _) (Qx hT Zh (by simp [Qhr]) (Qs 1000 ?_))
 have i0 : i64 0 := by unfold i64; omega
 unfold Qwb at h
 simp -implicitDefEqProofs (disch := omega) only [go_sem, ↓reduceIte, reduceCtorEq, rq, zA, Qhr, zqi_0, zqi_1, zqi_2, zqi_3, zqi_4]
 refine call hT Qu (Qfa hT) 1000 fun v σ hv => ?_
 obtain ⟨rfl, t1, ht1, rfl⟩ := hv
 by_cases hx : inG L x
 ·have hx' : 0 ≤ x ∧ x < L.length := hx
  have e : L.getD x.toNat zeroNd = nd L x := rfl
  rw [if_pos hx', e]
  rw [if_pos hx] at h
  generalize nd L x = d at *
  obtain ⟨h1, h2⟩ := Qa0 (S := []) (C := []) hok i0
  have l1 := Qgo h1.pre
  have l2 := (Qaj h1.ok h).1
  refine yu ?_
  refine call hT QW (Qmp hT F i0 (by omega)) 1000 fun v σ hv => ?_
  obtain ⟨rfl, t2, w2, w3, w4, ht2, rfl⟩ := hv
  refine ya ?_
  refine call hT Qe (QbU hT F hP f h1.ok (by omega) hr h) 1000 fun v σ hv => ?_
  obtain ⟨rfl, t3, z2, z3, z4, ht3, rfl⟩ := hv
  refine yd ?_
  exact ⟨by omega, rfl, t3, z2, z3, z4, by omega, rfl⟩
 ·have hx' : ¬ (0 ≤ x ∧ x < L.length) := hx
  rw [if_neg hx] at h
  cases h
  rw [if_neg hx']
  refine yQ ?_
  exact ⟨by omega, rfl, _, v2, v3, v4, by omega, rfl⟩
def QaS (fmt : Int → List UInt8) (L : List Nd) : List (List UInt8) := L.foldl (fun T d => T ++ [d.words fmt (T.getD d.x.toNat []) (T.getD d.y.toNat [])]) []
theorem Qkb (fmt : Int → List UInt8) (L : List Nd) (d : Nd) : QaS fmt (L ++ [d]) = QaS fmt L ++ [d.words fmt ((QaS fmt L).getD d.x.toNat []) ((QaS fmt L).getD d.y.toNat [])] := by simp [QaS, List.foldl_append]
theorem QiQ (fmt : Int → List UInt8) (L : List Nd) : (QaS fmt L).length = L.length := by
 refine Qbp (p := fun L => (QaS fmt L).length = L.length) rfl (fun l a h => ?_) L
 rw [Qkb]; simp [h]
theorem Qge {α : Type} (l m : List α) (i : Nat) (z : α) (h : i < l.length) : (l ++ m).getD i z = l.getD i z := by
 simp [List.getD_eq_getElem?_getD, List.getElem?_append_left h]
theorem Qoq (fmt : Int → List UInt8) {L M : List Nd} (h : L <+: M) : ∃ r, X1 fmt M = X1 fmt L ++ r := by
 obtain ⟨s, rfl⟩ := h
 refine Qbp (p := fun s => ∃ r, X1 fmt (L ++ s) = X1 fmt L ++ r) ⟨[], by simp⟩ (fun l a ⟨r, hr⟩ => ?_) s
 exact ⟨r ++ [Qor fmt (X1 fmt (L ++ l)) a], by rw [← aA, Qe7, hr, aA]⟩
theorem Qn9 (fmt : Int → List UInt8) {L M : List Nd} (h : L <+: M) : ∃ r, QaS fmt M = QaS fmt L ++ r := by
 obtain ⟨s, rfl⟩ := h
 refine Qbp (p := fun s => ∃ r, QaS fmt (L ++ s) = QaS fmt L ++ r) ⟨[], by simp⟩ (fun l a ⟨r, hr⟩ => ?_) s
 exact ⟨r ++ [_], by rw [← aA, Qkb, hr, aA]⟩
theorem Qls {L : List Nd} {i : Nat} {d : Nd} (h : L[i]? = some d) : L.take i ++ [d] <+: L := by
 have : L.take (i + 1) = L.take i ++ [d] := by rw [List.take_add_one, h]; rfl
 rw [← this]; exact List.take_prefix _ _
theorem QrR (fmt : Int → List UInt8) {L : List Nd} {i : Nat} {d : Nd} (h : L[i]? = some d) : (QaS fmt L).getD i [] = d.words fmt ((QaS fmt (L.take i)).getD d.x.toNat []) ((QaS fmt (L.take i)).getD d.y.toNat []) := by
 obtain ⟨r, hr⟩ := Qn9 fmt (Qls h)
 have hi := (List.getElem?_eq_some_iff.1 h).1
 have hl : (QaS fmt (L.take i)).length = i := by rw [QiQ, List.length_take]; omega
 rw [hr, Qkb, aA, List.getD_eq_getElem?_getD, List.getElem?_append_right (by omega), hl]
 simp
theorem QyH (fmt : Int → List UInt8) {L : List Nd} {i : Nat} {d : Nd} (h : L[i]? = some d) : (X1 fmt L).getD i 0 = Qor fmt (X1 fmt (L.take i)) d := by
 obtain ⟨r, hr⟩ := Qoq fmt (Qls h)
 have hi := (List.getElem?_eq_some_iff.1 h).1
 have hl : (X1 fmt (L.take i)).length = i := by rw [Qco, List.length_take]; omega
 rw [hr, Qe7, aA, List.getD_eq_getElem?_getD, List.getElem?_append_right (by omega), hl]
 simp
theorem Qs8 (fmt : Int → List UInt8) {L : List Nd} {i p : Nat} (h : p < i) (hi : i ≤ L.length) : (X1 fmt (L.take i)).getD p 0 = (X1 fmt L).getD p 0 := by
 obtain ⟨r, hr⟩ := Qoq fmt (List.take_prefix i L)
 rw [hr, Qge _ _ _ _ (by rw [Qco, List.length_take]; omega)]
theorem Qlr (fmt : Int → List UInt8) {L : List Nd} {i p : Nat} (h : p < i) (hi : i ≤ L.length) : (QaS fmt (L.take i)).getD p [] = (QaS fmt L).getD p [] := by
 obtain ⟨r, hr⟩ := Qn9 fmt (List.take_prefix i L)
 rw [hr, Qge _ _ _ _ (by rw [QiQ, List.length_take]; omega)]
theorem Qgi (fmt : Int → List UInt8) (d : Nd) {x y x' y' : List UInt8} (h3 : d.kind = 3 → y = y') (h4 : d.kind = 1 ∨ d.kind = 2 ∨ d.kind = 3 ∨ (x = x' ∧ y = y')) : d.words fmt x y = d.words fmt x' y' := by
 unfold Nd.words
 split
 ·rfl
 ·split
  ·rfl
  ·split
   ·rename_i h; rw [h3 h]
   ·rcases h4 with h | h | h | ⟨h, h'⟩
    ·contradiction
    ·contradiction
    ·contradiction
    ·rw [h, h']
theorem QsN (fmt : Int → List UInt8) (d : Nd) (x y : List UInt8) (h : d.kind = 3) : (d.words fmt x y).length = (d.words fmt [] []).length + y.length := by
 unfold Nd.words
 simp only [h]
 simp; omega
theorem QsM (fmt : Int → List UInt8) (d : Nd) (x y : List UInt8) (h : d.kind = 4) : (d.words fmt x y).length = (d.words fmt [] []).length + x.length + y.length := by
 unfold Nd.words
 simp only [h]
 simp; omega
theorem nnN (fmt : Int → List UInt8) (L : List Nd) (p : Nat) : 0 ≤ (X1 fmt L).getD p 0 := by
 rw [List.getD_eq_getElem?_getD]
 cases hx : (X1 fmt L)[p]? with
 | none => simp
 | some x => simpa using (Qr9 fmt L x (List.mem_of_getElem? hx)).1
theorem Qsa (fmt : Int → List UInt8) {L : List Nd} (hok : okN L) : ∀ (i : Nat) (d : Nd), L[i]? = some d → (X1 fmt L).getD i 0 ≤ 65536 →
 (((QaS fmt L).getD i []).length : Int) = (X1 fmt L).getD i 0 ∧ ∀ p ∈ d.parts, (X1 fmt L).getD p.toNat 0 ≤ 65536 := by
 intro i
 induction i using Nat.strongRecOn with
 | _ i ih =>
   intro d hd hN
   have hi := (List.getElem?_eq_some_iff.1 hd).1
   obtain ⟨hpp, hop, hk⟩ := Qe6 (hok i d hd).2.2
   rw [QyH fmt hd] at hN ⊢
   rw [QrR fmt hd]
   have hA : Qdv (X1 fmt (L.take i)) d.parts ((d.words fmt [] []).length : Int) ≤ 65536 ∧ Qor fmt (X1 fmt (L.take i)) d = Qdv (X1 fmt (L.take i)) d.parts ((d.words fmt [] []).length : Int) := by
    unfold Qor at hN ⊢
    split at hN
    ·omega
    ·rename_i h; rw [if_neg h]; exact ⟨hN, rfl⟩
   rw [hA.2]
   have part : ∀ p ∈ d.parts, (X1 fmt (L.take i)).getD p.toNat 0 = (X1 fmt L).getD p.toNat 0 ∧ ((X1 fmt L).getD p.toNat 0 ≤ 65536 → (((QaS fmt (L.take i)).getD p.toNat []).length : Int) = (X1 fmt L).getD p.toNat 0) := fun p hp => by
    have hb := hpp p hp
    obtain ⟨e, he⟩ : ∃ e, L[p.toNat]? = some e := ⟨_, List.getElem?_eq_getElem (by omega)⟩
    refine ⟨Qs8 fmt (by omega) (by omega), fun h => ?_⟩
    rw [Qlr fmt (by omega) (by omega)]
    exact (ih p.toNat (by omega) e he h).1
   rcases hk with h | h | h | h
   ·have hps : d.parts = [] := by simp [Nd.parts, h]
    rw [hps] at hA ⊢
    refine ⟨?_, by simp⟩
    rw [Qgi fmt d (x' := []) (y' := []) (by omega) (.inl h)]
    simp [Qdv]
   ·have hps : d.parts = [] := by simp [Nd.parts, h]
    rw [hps] at hA ⊢
    refine ⟨?_, by simp⟩
    rw [Qgi fmt d (x' := []) (y' := []) (by omega) (.inr (.inl h))]
    simp [Qdv]
   ·have hps : d.parts = [d.y] := by simp [Nd.parts, h]
    obtain ⟨q1, q2⟩ := part d.y (by simp [hps])
    have nn := nnN fmt L d.y.toNat
    rw [hps] at hA ⊢
    simp only [Qdv, List.foldl_cons, List.foldl_nil, q1] at hA ⊢
    have hle : (X1 fmt L).getD d.y.toNat 0 ≤ 65536 := by omega
    refine ⟨?_, by simpa using hle⟩
    rw [QsN fmt d _ _ h]
    have := q2 hle
    omega
   ·have hps : d.parts = [d.x, d.y] := by simp [Nd.parts, h]
    obtain ⟨q1, q2⟩ := part d.y (by simp [hps])
    obtain ⟨r1, r2⟩ := part d.x (by simp [hps])
    have nn := nnN fmt L d.y.toNat
    have nn2 := nnN fmt L d.x.toNat
    rw [hps] at hA ⊢
    simp only [Qdv, List.foldl_cons, List.foldl_nil, q1, r1] at hA ⊢
    have hle : (X1 fmt L).getD d.y.toNat 0 ≤ 65536 := by omega
    have hle2 : (X1 fmt L).getD d.x.toNat 0 ≤ 65536 := by omega
    refine ⟨?_, by simpa using ⟨hle2, hle⟩⟩
    rw [QsM fmt d _ _ h]
    have := q2 hle
    have := r2 hle2
    omega
theorem Qwk (fmt : Int → List UInt8) {L : List Nd} (hok : okN L) {id : Int} (h : (X1 fmt L).getD id.toNat 0 ≤ 65536) : ∀ x ∈ QN L [id], (X1 fmt L).getD x.toNat 0 ≤ 65536 :=
 Qha (Q := fun x => (X1 fmt L).getD x.toNat 0 ≤ 65536) (fun x h0 h1 hx p hp => by
  obtain ⟨d, hd⟩ : ∃ d, L[x.toNat]? = some d := ⟨_, List.getElem?_eq_getElem (by omega)⟩
  have : pts L x = d.parts := by simp [pts, List.getD_eq_getElem?_getD, hd]
  rw [this] at hp
  exact (Qsa fmt hok x.toNat d hd hx).2 p hp) h
theorem QFM (fmt : Int → List UInt8) {L : List Nd} (hok : okN L) {i : Nat} (hi : i < L.length) (h : (X1 fmt L).getD i 0 ≤ 65536) : ((QaS fmt L).getD i []).length ≤ 65536 := by
 obtain ⟨d, hd⟩ : ∃ d, L[i]? = some d := ⟨_, List.getElem?_eq_getElem hi⟩
 have := (Qsa fmt hok i d hd h).1
 omega
def QsP (fmt : Int → List UInt8) (L : List Nd) (id : Int) : List UInt8 := if (0 ≤ id ∧ id < L.length) ∧ (X1 fmt L).getD id.toNat 0 ≤ 65536 then (QaS fmt L).getD id.toNat [] else []
theorem QdV {U : List Int} (hs : U.Pairwise (· < ·)) {k : Nat} {i y : Int} (hk : U[k]? = some i) (hy : y ∈ U) (hlt : y < i) : y ∈ U.take k := by
 obtain ⟨j, hj⟩ := List.getElem?_of_mem hy
 have hjl := (List.getElem?_eq_some_iff.1 hj).1
 have hkl := (List.getElem?_eq_some_iff.1 hk).1
 have ej := (List.getElem?_eq_some_iff.1 hj).2
 have ek := (List.getElem?_eq_some_iff.1 hk).2
 have hjk : j < k := by
  rcases Nat.lt_trichotomy j k with h | h | h
  ·exact h
  ·subst h; rw [hj] at hk; cases hk; omega
  ·have := (List.pairwise_iff_getElem.1 hs) k j hkl hjl h
   omega
 rw [List.mem_iff_getElem?]
 exact ⟨j, by rw [List.getElem?_take, if_pos hjk]; exact hj⟩
theorem Qoj {U : List Int} (hs : U.Pairwise (· < ·)) {k : Nat} {i : Int} (hk : U[k]? = some i) : i ∉ U.take k := by
 intro hm
 obtain ⟨j, hj⟩ := List.getElem?_of_mem hm
 rw [List.getElem?_take] at hj
 split at hj
 ·rename_i hjk
  have ej := (List.getElem?_eq_some_iff.1 hj)
  have ek := (List.getElem?_eq_some_iff.1 hk)
  have := (List.pairwise_iff_getElem.1 hs) j k ej.1 ek.1 hjk
  rw [ej.2, ek.2] at this
  omega
 ·cases hj
def shown (fmt : Int → List UInt8) (L : List Nd) : Int → V := fun i => .agg [.str ((QaS fmt L).getD i.toNat [])]
def look (fmt : Int → List UInt8) (L : List Nd) (S : List Int) (x : Int) : List UInt8 := if x ∈ S then (QaS fmt L).getD x.toNat [] else []
theorem Qig (fmt : Int → List UInt8) (L : List Nd) (S : List Int) (x : Int) : (Qqq [.i] (.int .i64 x) (im .i64 (shown fmt L) S)).getD (.agg [.str []]) = .agg [.str (look fmt L S x)] := by
 rw [Qmj]
 unfold look
 split <;> rfl
theorem c_Text (hT : Qj P tab) (F : Fmt P G) (SO : ZG P) {v0 v1 v2 v3 v4 t : Nat} {L : List Nd} {id : Int} (hL : L.length ≤ 1000000) (hok : okN L) :
 C P G 5 QaY [.ptr 0 v0 0, .int .i64 id] ⟨t, gG F.fmt v0 v1 v2 v3 v4 L⟩ fun v σ => v = .str (QsP F.fmt L id) ∧ ∃ t', t ≤ t' ∧ σ = ⟨t', gG F.fmt v0 v1 v2 v3 v4 L⟩ := by
 have hN := Qco F.fmt L
 have hwf := hok.wf
 refine Ql 5 (lR _) (Qx hT QcV (by simp [Y6]) (Qs 1000 ?_))
 simp -implicitDefEqProofs (disch := omega) only [go_sem, ↓reduceIte, reduceCtorEq, rq, zA, Y6, QDK, QDJ, QDI, QDH, QDG, QDF, QDE, QDD, QDC, QDB, Qvr, gG, gH, gS]
 refine call hT XN (c_is hT) 1000 fun v σ hv => ?_
 obtain ⟨rfl, rfl⟩ := hv
 by_cases h : 0 ≤ id ∧ id < L.length
 ·have hlen : id.toNat < L.length := by omega
  obtain ⟨x, hx⟩ : ∃ x, (X1 F.fmt L)[id.toNat]? = some x := ⟨_, List.getElem?_eq_getElem (by omega)⟩
  have hg : ((X1 F.fmt L).map (V.int .i64)).getD id.toNat .any = V.int .i64 x := by simp [List.getD_eq_getElem?_getD, hx]
  have hg2 : (X1 F.fmt L).getD id.toNat 0 = x := by simp [List.getD_eq_getElem?_getD, hx]
  by_cases hbig : 65536 < x
  ·refine yT ?_
   refine ⟨?_, _, by omega, rfl⟩
   rw [QsP, hg2, if_neg (by omega)]
  ·refine yT ?_
   have hN6 : (X1 F.fmt L).getD id.toNat 0 ≤ 65536 := by omega
   refine callE (oS := gH v0 v1 v2 v3 v4 L (QfS L) (X1 F.fmt L)) (ex := [some (.map t [])]) hT Zf (QEk hT SO (lR 5) hL hwf [id] 1 true (.inl rfl) (by simp)) rfl (Qsk ..) (lR 5) rfl 1000 fun v σ hv => ?_
   obtain ⟨rfl, t2, ht2, rfl⟩ := hv
   refine ⟨rfl, Qsk .., rfl, ?_⟩
   simp only at ht2
   simp -implicitDefEqProofs (disch := omega) only [go_sem, ↓reduceIte, reduceCtorEq, rq, gH, gS, lM, nA, cA]
   have hUs := Qgk (L := L) (roots := [id])
   have hUo := QeG (L := L) (roots := [id])
   have hUl := Qwk F.fmt hok hN6
   have hUid := QeF hwf h.1 h.2
   have hUc : ∀ i ∈ QN L [id], ∀ p ∈ pts L i, p ∈ QN L [id] := fun i hi p hp => Qdm hwf hi hp
   have hUlen : (QN L [id]).length ≤ L.length := by
    have := Qko (QcX L [id] [] ⟨List.nodup_nil, by simp⟩)
    simpa [QN] using this
   generalize QN L [id] = U at *
   refine Qfv (fun m fr σ => ∃ (k t' : Nat), k ≤ U.length ∧ m = U.length - k ∧ t ≤ t' ∧ Qt fr 0 = .ptr 0 v0 0 ∧ Qt fr 1 = .int .i64 id ∧ Qt fr 5 = .mp 5 t ∧ Qt fr 27 = .lst 1 (U.map (V.int .i64)) false ∧ Qt fr 28 = .int .i64 U.length ∧ Qt fr 29 = .int .i64 k ∧
    σ = ⟨t', gH v0 v1 v2 v3 v4 L (QfS L) (X1 F.fmt L) ++ [some (.map t (im .i64 (shown F.fmt L) (U.take k)))]⟩)
    (fun e fr σ => e = .ex 0 ∧ Qt fr 1 = .int .i64 id ∧ Qt fr 5 = .mp 5 t ∧ ∃ t', t ≤ t' ∧ σ = ⟨t', gH v0 v1 v2 v3 v4 L (QfS L) (X1 F.fmt L) ++ [some (.map t (im .i64 (shown F.fmt L) U))]⟩)
    (m0 := U.length) ⟨0, t2, zL _, rfl, by omega, ?_⟩ (fun m fr σ hJ => ?_) (fun e fr σ hE => ?_)
   ·refine ya ?_
    exact ⟨rfl, rfl⟩
   ·obtain ⟨k, t', hk, rfl, ht', f0, f1, f5, f27, f28, f29, rfl⟩ := hJ
    refine Qs 1000 ?_
    rcases Nat.lt_or_ge k U.length with hlt | hge
    ·obtain ⟨i, hi⟩ : ∃ i, U[k]? = some i := ⟨_, List.getElem?_eq_getElem hlt⟩
     have hiU := List.mem_of_getElem? hi
     obtain ⟨hi0, hi1⟩ := hUo i hiU
     have hgU : (U.map (V.int .i64)).getD k .any = V.int .i64 i := by simp [List.getD_eq_getElem?_getD, hi]
     obtain ⟨d, hd⟩ : ∃ d, L[i.toNat]? = some d := ⟨_, List.getElem?_eq_getElem (by omega)⟩
     have hl := Qfw L
     have hc := Qqn hd
     have hilen : i.toNat < L.length := by omega
     have h6 : i.toNat * 6 + 6 ≤ (ndC L).length := by omega
     have hps : pts L i = d.parts := by simp [pts, List.getD_eq_getElem?_getD, hd]
     obtain ⟨hdn, hda, hdm⟩ := hok _ d hd
     obtain ⟨hdp, hdo, hdk⟩ := Qe6 hdm
     have hx1 := Qig F.fmt L (U.take k) d.x
     have hy1 := Qig F.fmt L (U.take k) d.y
     have hkx := YT .i64 (shown F.fmt L) (U.take k) d.x
     have hky := YT .i64 (shown F.fmt L) (U.take k) d.y
     have hki := YT .i64 (shown F.fmt L) (U.take k) i
     have lk : ∀ z, (look F.fmt L (U.take k) z).length ≤ 1000000 := fun z => by
      unfold look
      split
      ·rename_i hz
       have hzU := List.mem_of_mem_take hz
       have := QFM F.fmt hok (i := z.toNat) (by have := hUo z hzU; omega) (hUl z hzU)
       omega
      ·simp
     have hin : ∀ z ∈ d.parts, look F.fmt L (U.take k) z = (QaS F.fmt (L.take i.toNat)).getD z.toNat [] := fun z hz => by
      have hzU := hUc i hiU z (by rw [hps]; exact hz)
      have hzb := hdp z hz
      have := QdV hUs hi hzU (by omega)
      unfold look
      rw [if_pos this, Qlr F.fmt (by omega) (by omega)]
     have hword : d.words F.fmt (look F.fmt L (U.take k) d.x) (look F.fmt L (U.take k) d.y) = (QaS F.fmt L).getD i.toNat [] := by
      rw [QrR F.fmt hd]
      refine Qgi F.fmt d (fun h3 => hin d.y (by simp [Nd.parts, h3])) ?_
      rcases hdk with q | q | q | q
      ·exact .inl q
      ·exact .inr (.inl q)
      ·exact .inr (.inr (.inl q))
      ·exact .inr (.inr (.inr ⟨hin d.x (by simp [Nd.parts, q]), hin d.y (by simp [Nd.parts, q])⟩))
     have hmp := Qmg .i64 (shown F.fmt L) i (.agg [.str ((QaS F.fmt L).getD i.toNat [])]) rfl (U.take k) (Qoj hUs hi)
     simp -implicitDefEqProofs (disch := omega) only [go_sem, Qr, ↓reduceIte, reduceCtorEq, rA, rq, rL, Nat.succ_ne_zero, zA, aZ, decide_true, nF, lR, gH, gS, lM, nA, cA, f0, f5, f27, f28, f29, hlt, hgU, hi0, hilen, h6, hc, Nd.cells, hx1, hy1, hkx, hky]
     refine Qd hT QeM (Qxh hT F d _ _ hdn hda hdo (lk d.x) (lk d.y)) rfl 1000 ?_
     simp -implicitDefEqProofs (disch := omega) only [go_sem, ↓reduceIte, rq, zA, nF, lR, nA, cA, f29, hword, hki, hmp]
     have htk : U.take (k + 1) = U.take k ++ [i] := by rw [List.take_add_one, hi]; rfl
     refine ⟨U.length - (k + 1), _, _, by omega, Shift.drop (o' := gH v0 v1 v2 v3 v4 L (QfS L) (X1 F.fmt L) ++ [some (.map t (im .i64 (shown F.fmt L) (U.take k ++ [i])))]) (t' := t' + 1) (by simp [Qa5, gH, gS]) (lR _) (by simp [gH]), k + 1, t' + 1, hlt, rfl, by omega, ?_⟩
     ·have hw : IntKind.i64.wrap ((k : Int) + 1) = ((k + 1 : Nat) : Int) := by
       rw [wrap_i64 (by omega) (by omega)]; rfl
      simp -implicitDefEqProofs (disch := omega) only [go_sem, ↓reduceIte, reduceCtorEq, rq, Nat.succ_ne_zero, f0, f1, f5, f27, f28, hw, htk]
      rfl
    ·simp -implicitDefEqProofs (disch := omega) only [go_sem, ↓reduceIte, rq, decide_false, f1, f5, f28, f29, show ¬ k < U.length from by omega]
     rw [List.take_of_length_le (by omega)]
     exact ⟨t', ht', rfl, rfl⟩
   ·obtain ⟨rfl, f1, f5, t', ht', rfl⟩ := hE
    have hkid := YT .i64 (shown F.fmt L) U id
    have hmid := Qig F.fmt L U id
    have hlk : look F.fmt L U id = (QaS F.fmt L).getD id.toNat [] := by unfold look; rw [if_pos hUid]
    refine QI 1000 ?_
    simp -implicitDefEqProofs (disch := omega) only [go_sem, ↓reduceIte, rA, rq, rL, zA, lR, gH, gS, nA, cA, f1, f5, hkid, hmid, hlk]
    refine ⟨?_, _, ht', rfl⟩
    rw [QsP, if_pos ⟨h, hN6⟩]
 ·simp -implicitDefEqProofs (disch := omega) only [go_sem, ↓reduceIte, reduceCtorEq, rA, rq, zA, decide_false, nF, lR, gS, h]
  refine ⟨?_, _, by omega, rfl⟩
  rw [QsP, if_neg (fun hh => h hh.1)]
theorem k_Text (hT : Qj P tab) (F : Fmt P G) (SO : ZG P) {base : Nat} {v0 v1 v2 v3 v4 t : Nat} {L : List Nd} {ex : List (Option Ob)} {id : Int} (hL : L.length ≤ 1000000) (hok : okN L) :
 C P G base QaY [.ptr 1 v0 0, .int .i64 id] ⟨t, kG F.fmt v0 v1 v2 v3 v4 L ++ ex⟩ fun v σ => v = .str (QsP F.fmt L id) ∧ ∃ t', t ≤ t' ∧ σ = ⟨t', kG F.fmt v0 v1 v2 v3 v4 L ++ ex⟩ :=
 Qsd (c_Text hT F SO hL hok) rfl rfl
theorem c_few (hT : Qj P tab) (S : List Int) (tS : Bool) (zC : Nat) (C : List Cl) (tC : Bool) : Pure P G Qbo [Qfc S tS zC C tC] fun v => v = .bool (decide (S.length ≤ 60 ∧ C.length ≤ 60)) := by
 intro t
 refine Ql 0 (zL _) (Qx hT XW (by simp [Xx]) (Qs 14 ?_))
 by_cases h1 : S.length ≤ 60
 ·have h1' : decide ((S.length : Int) ≤ 60) = true := by simp; omega
  by_cases h2 : C.length ≤ 60
  ·have h2' : decide ((C.length : Int) ≤ 60) = true := by simp; omega
   simp -implicitDefEqProofs (disch := omega) only [go_sem, ↓reduceIte, reduceCtorEq, rA, rq, rL, zA, aZ, decide_true, lR, Xx, QxT, QxS, Qfc, Xe, lN, lC, nA, h1, h1', h2, and_self, true_implies]
   iterate 9 (try (refine QI 4 ?_; simp -implicitDefEqProofs (disch := omega) only [go_sem, ↓reduceIte, reduceCtorEq, rA, rq, zA, zL, lM, lN, lC, h2', and_self]))
  ·have h2' : decide ((C.length : Int) ≤ 60) = false := by simp; omega
   simp -implicitDefEqProofs (disch := omega) only [go_sem, ↓reduceIte, reduceCtorEq, rA, rq, rL, zA, aZ, decide_false, lR, Xx, QxT, QxS, Qfc, Xe, lN, lC, nA, h1, h1', h2, and_false, true_implies, and_true]
   iterate 9 (try (refine QI 4 ?_; simp -implicitDefEqProofs (disch := omega) only [go_sem, ↓reduceIte, reduceCtorEq, rA, rq, zA, zL, lM, lN, lC, h2', and_true]))
 ·have h1' : decide ((S.length : Int) ≤ 60) = false := by simp; omega
  simp -implicitDefEqProofs (disch := omega) only [go_sem, ↓reduceIte, reduceCtorEq, rA, rq, rL, zA, aZ, decide_false, Xx, QxT, QxS, Qfc, Xe, lN, lC, nA, h1, h1', false_and, true_implies, and_true]
  iterate 9 (try (refine QI 4 ?_; simp -implicitDefEqProofs (disch := omega) only [go_sem, ↓reduceIte, reduceCtorEq, rq, zA, zL, lN, lC, and_true]))
theorem Qsw (hT : Qj P tab) (op : Int) : Pure P G QaN [.int .u8 op] fun v => v = .bool (decide (1 ≤ op ∧ op ≤ 16)) := by
 intro t
 refine Ql 0 (zL _) (Qx hT Q1 (by simp [Xd]) (Qs 1000 ?_))
 by_cases h1 : 1 ≤ op
 ·by_cases h2 : op ≤ 16
  ·simp -implicitDefEqProofs (disch := omega) only [go_sem, ↓reduceIte, reduceCtorEq, rA, rq, decide_true, lR, ge_iff_le, Xd, QxV, QxU, h1, h2, and_self, decide_true]
  ·simp -implicitDefEqProofs (disch := omega) only [go_sem, ↓reduceIte, reduceCtorEq, rA, rq, decide_true, decide_false, lR, ge_iff_le, Xd, QxV, QxU, h1, h2, and_false, decide_false]
 ·simp -implicitDefEqProofs (disch := omega) only [go_sem, ↓reduceIte, reduceCtorEq, rq, decide_false, lR, ge_iff_le, Xd, QxV, QxU, h1, false_and, decide_false]
def Qkn (i : Int) (n : Nat) : Int := if n = 0 then 0 else i % n
theorem Qkm {i : Int} {L : List Nd} (h : L.length ≠ 0) : inG L (Qkn i L.length) := by
 unfold Qkn inG
 rw [if_neg h]
 exact ⟨Int.emod_nonneg _ (by omega), Int.emod_lt_of_pos _ (by omega)⟩
theorem QFY {i n : Int} (h : 0 < n) (hn : n ≤ 1000000) : (IntKind.i64.wrap (i.tmod n + n)).tmod n = i % n := by
 have h1 := Int.tmod_lt_of_pos i h
 have h2 := Int.lt_tmod_of_pos i h
 have h3 := Int.mul_tdiv_add_tmod i n
 rw [wrap_i64 (by omega) (by omega), Int.tmod_eq_emod_of_nonneg (by omega), Int.add_emod_right]
 conv => rhs; rw [← h3]
 rw [Int.mul_add_emod_self_left]
theorem c_Pick (hT : Qj P tab) {i : Int} {n : Nat} (hn : n ≤ 1000000) : Pure P G QbP [.int .i64 i, .int .i64 (n : Int)] fun v => v = .int .i64 (Qkn i n) := by
 intro t
 refine Ql 0 (zL _) (Qx hT QbE (by simp [X9]) (Qs 1000 ?_))
 by_cases h : n = 0
 ·subst h
  simp -implicitDefEqProofs (disch := omega) only [go_sem, ↓reduceIte, reduceCtorEq, rq, zA, lR, X9, QES, QER, QEQ, QEP, Qkn]
  exact fun h => absurd (Int.le_refl _) h
 ·have h1 : ¬ (n : Int) ≤ 0 := by omega
  have h2 : ¬ (n : Int) = 0 := by omega
  simp -implicitDefEqProofs (disch := omega) only [go_sem, ↓reduceIte, reduceCtorEq, rq, zA, decide_false, lR, X9, QES, QER, QEQ, QEP, Qkn, h, h1, h2]
  rw [QFY (by omega) (by omega)]
theorem QG0 (hT : Qj P tab) (d : Nd) : Pure P G Qba [.agg d.cells] fun v => v = .bool (decide ((d.kind = 4 ∧ (d.op = 14 ∨ d.op = 15 ∨ d.op = 16)) ∨ (d.kind = 1 ∧ (d.n = 0 ∨ d.n = 1)))) := by
 intro t
 refine Ql 0 (zL _) (Qx hT Y9 (by simp [QG]) (Qs 1000 ?_))
 by_cases hk : d.kind = 4
 ·have h1 : ¬ d.kind = 1 := by omega
  by_cases o14 : d.op = 14
  ·simp -implicitDefEqProofs (disch := omega) only [go_sem, ↓reduceIte, reduceCtorEq, rA, rq, rL, Int.reduceEq, zA, aZ, decide_true, zL, beq_self_eq_true, QG, QlR, QlQ, Nd.cells, hk, o14]
   try simp_all
  by_cases o15 : d.op = 15
  ·simp -implicitDefEqProofs (disch := omega) only [go_sem, ↓reduceIte, reduceCtorEq, rA, rq, rL, Int.reduceEq, zA, aZ, decide_true, zL, beq_self_eq_true, QG, QlR, QlQ, Nd.cells, hk, o15]
   try simp_all
  by_cases o16 : d.op = 16
  ·simp -implicitDefEqProofs (disch := omega) only [go_sem, ↓reduceIte, reduceCtorEq, rA, rq, rL, Int.reduceEq, zA, aZ, decide_true, zL, beq_self_eq_true, QG, QlR, QlQ, Nd.cells, hk, o16]
   try simp_all
  ·simp -implicitDefEqProofs (disch := omega) only [go_sem, ↓reduceIte, reduceCtorEq, rA, rq, rL, Int.reduceEq, zA, aZ, decide_false, zL, beq_self_eq_true, QG, QlR, QlQ, Nd.cells, hk, o14, o15, o16]
   try simp_all
 ·by_cases h1 : d.kind = 1
  ·by_cases n0 : d.n = 0
   ·simp -implicitDefEqProofs (disch := omega) only [go_sem, ↓reduceIte, reduceCtorEq, rA, rq, rL, Int.reduceEq, zA, aZ, decide_true, zL, beq_self_eq_true, QG, QlR, QlQ, Nd.cells, h1, n0]
    try simp_all
   by_cases n1 : d.n = 1
   ·simp -implicitDefEqProofs (disch := omega) only [go_sem, ↓reduceIte, reduceCtorEq, rA, rq, rL, Int.reduceEq, zA, aZ, decide_true, zL, beq_self_eq_true, QG, QlR, QlQ, Nd.cells, h1, n1]
    try simp_all
   ·simp -implicitDefEqProofs (disch := omega) only [go_sem, ↓reduceIte, reduceCtorEq, rA, rq, rL, Int.reduceEq, zA, aZ, decide_false, zL, beq_self_eq_true, QG, QlR, QlQ, Nd.cells, h1, n0, n1]
    try simp_all
  ·simp -implicitDefEqProofs (disch := omega) only [go_sem, ↓reduceIte, reduceCtorEq, rA, rq, rL, zA, aZ, decide_false, zL, QG, QlR, QlQ, Nd.cells, hk, h1]
   try simp_all
theorem k_at (hT : Qj P tab) {base : Nat} {fmt : Int → List UInt8} {v0 v1 v2 v3 v4 t : Nat} {L : List Nd} {ex : List (Option Ob)} {i : Int} (hb : base ≤ 5 + ex.length) (hL : L.length ≤ 1000000) :
 C P G base QbO [.ptr 1 v0 0, .int .i64 i] ⟨t, kG fmt v0 v1 v2 v3 v4 L ++ ex⟩ fun v σ => v = .int .i64 (Qkn i L.length) ∧ ∃ t', t ≤ t' ∧ σ = ⟨t', kG fmt v0 v1 v2 v3 v4 L ++ ex⟩ := by
 refine Ql (5 + ex.length) hb (Qx hT XI (by simp [YD]) (Qs 1000 ?_))
 simp -implicitDefEqProofs (disch := omega) only [go_sem, ↓reduceIte, reduceCtorEq, rq, zA, YD, zqo_0, zqo_1]
 refine call hT Q0 (Qhz hT) 1000 fun v σ hv => ?_
 obtain ⟨rfl, t1, ht1, rfl⟩ := hv
 refine ya ?_
 refine Qd hT QbE (c_Pick hT hL) rfl 1000 ?_
 simp -implicitDefEqProofs (disch := omega) only [go_sem, ↓reduceIte, reduceCtorEq, rq, lR, QD2, QjL]
 exact ⟨t1, ht1, rfl⟩
def symN (L : List Nd) (k : Int) : GR := addN L ⟨2, k, 0, 0, 0, 0⟩
def QGY (L : List Nd) (a v x : Int) : GR := addN L ⟨3, v, a, 0, 0, x⟩
theorem k_Sym (hT : Qj P tab) (F : Fmt P G) {v0 v1 v2 v3 v4 t : Nat} {L : List Nd} {ex : List (Option Ob)} {n : Int} (hn : i64 n) (hL : L.length ≤ 1000000) :
 C P G 0 QlB [.ptr 1 v0 0, .int .i64 n] ⟨t, kG F.fmt v0 v1 v2 v3 v4 L ++ ex⟩ (Qbh F.fmt (symN L n) v0 v1 ex t) := by
 refine Qx hT Qh3 (by simp [Qhq]) (Qs 1000 ?_)
 simp -implicitDefEqProofs (disch := omega) only [go_sem, ↓reduceIte, reduceCtorEq, rA, rq, rL, zA, Qhq, zqz_0, zqz_1, lC, lN, cA, nA, tSq, tZ, and_true]
 refine call hT Qw (Qgy hT F ⟨2, n, 0, 0, 0, 0⟩ hL hn (show i64 0 by unfold i64; omega)) 1000 fun v σ hv => ?_
 obtain ⟨rfl, t', v2', v3', v4', ht, rfl⟩ := hv
 refine ya ?_
 exact ⟨rfl, t', v2', v3', v4', ht, rfl⟩
theorem Qwt (hT : Qj P tab) (F : Fmt P G) {v0 v1 v2 v3 v4 t : Nat} {L : List Nd} {ex : List (Option Ob)} {a n y : Int} (ha : i64 a) (hn : i64 n) (hL : L.length ≤ 1000000) :
 C P G 0 Qku [.ptr 1 v0 0, .int .i64 a, .int .i64 n, .int .i64 y] ⟨t, kG F.fmt v0 v1 v2 v3 v4 L ++ ex⟩ (Qbh F.fmt (QGY L a n y) v0 v1 ex t) := by
 refine Qx hT Qgm (by simp [QeT]) (Qs 1000 ?_)
 simp -implicitDefEqProofs (disch := omega) only [go_sem, ↓reduceIte, reduceCtorEq, rA, rq, rL, zA, lR, QeT, QDA, QDz, lC, lN, cA, nA, tSq, tZ, and_true]
 refine call hT Qw (Qgy hT F ⟨3, n, a, 0, 0, y⟩ hL hn ha) 1000 fun v σ hv => ?_
 obtain ⟨rfl, t', v2', v3', v4', ht, rfl⟩ := hv
 refine ya ?_
 exact ⟨rfl, t', v2', v3', v4', ht, rfl⟩
theorem QkD (hT : Qj P tab) (F : Fmt P G) {v0 v1 v2 v3 v4 t : Nat} {L : List Nd} {ex : List (Option Ob)} {n : Int} (hn : i64 n) (hL : L.length ≤ 1000000) :
 C P G 0 Zv [.ptr 1 v0 0, .int .i64 n] ⟨t, kG F.fmt v0 v1 v2 v3 v4 L ++ ex⟩ (Qbh F.fmt (numN L n) v0 v1 ex t) := by
 refine Qx hT Qc (by simp [Ys]) (Qs 1000 ?_)
 simp -implicitDefEqProofs (disch := omega) only [go_sem, ↓reduceIte, reduceCtorEq, rq, zA, Ys, zqh_0, zqh_1]
 refine call hT QW (Qmp hT F hn hL) 1000 fun v σ hv => ?_
 obtain ⟨rfl, t', v2', v3', v4', ht, rfl⟩ := hv
 refine ya ?_
 exact ⟨rfl, t', v2', v3', v4', ht, rfl⟩
theorem k_New (hT : Qj P tab) (fmt : Int → List UInt8) {t : Nat} :
 C P G 0 Qib [] ⟨t, []⟩ fun v σ => ∃ v0 v1 v2 v3 v4 t', t ≤ t' ∧ v = .ptr 1 v0 0 ∧ σ = ⟨t', kG fmt v0 v1 v2 v3 v4 [] ++ []⟩ := by
 refine (c_New hT (zL _)).conseq fun v σ hv => ?_
 obtain ⟨v0, v1, v2, v3, v4, t1, i1, i2, i3, i4, ht1, rfl, rfl, rfl, rfl, rfl, rfl⟩ := hv
 exact ⟨v0, v1, v2, v3, v4, t1, ht1, rfl, rfl⟩
theorem ok_not {f : Nat} {L : List Nd} (hok : okN L) {x : Int} {r : GR} (h : Qwb f L x = some r) : okN r.2 := by
 unfold Qwb at h
 split at h
 ·exact (Qaj (Xs hok (by unfold i64; decide) (by unfold i64; decide)) h).2.1
 ·cases h; exact hok
abbrev bn (r : GR) (op x y : Int) : GR := (QiC 30 r.2 op x y).getD (0, [])
def e1 : GR := symN [] 0
def e2 : GR := symN e1.2 1
def e3 : GR := numN e2.2 5
def e4 : GR := bn e3 1 0 2
def e5 : GR := numN e4.2 (-5)
def e6 : GR := bn e5 1 3 4
def e7 : GR := numN e6.2 3
def e8 : GR := bn e7 11 0 6
def e9 : GR := numN e8.2 8
def e10 : GR := bn e9 3 7 0
def e11 : GR := bn e10 14 0 1
def e12 : GR := bn e11 10 0 1
def e13 : GR := numN e12.2 1
def e14 : GR := bn e13 15 10 11
def e15 : GR := (Qwb 30 e14.2 9).getD (0, [])
def e16 : GR := numN e15.2 1
def e17 : GR := bn e16 10 9 11
def e18 : GR := bn e17 16 0 1
def e19 : GR := QGY e18.2 0 0 0
theorem n1 : e1.1 = 0 := by kernel_rfl
theorem z1 : e1.2.length ≤ 1000000 := by rw [show e1.2.length = e1.2.length from rfl]; exact of_decide_eq_true (by kernel_rfl)
theorem o1 : okN e1.2 := Xs (by intro i d h; simp at h) (by unfold i64; decide) (by unfold i64; decide)
theorem n2 : e2.1 = 1 := by kernel_rfl
theorem z2 : e2.2.length ≤ 1000000 := by rw [show e2.2.length = e2.2.length from rfl]; exact of_decide_eq_true (by kernel_rfl)
theorem o2 : okN e2.2 := Xs o1 (by unfold i64; decide) (by unfold i64; decide)
theorem n3 : e3.1 = 2 := by kernel_rfl
theorem z3 : e3.2.length ≤ 1000000 := by rw [show e3.2.length = e3.2.length from rfl]; exact of_decide_eq_true (by kernel_rfl)
theorem o3 : okN e3.2 := Xs o2 (by unfold i64; decide) (by unfold i64; decide)
theorem n4 : e4.1 = 3 := by kernel_rfl
theorem z4 : e4.2.length ≤ 1000000 := by rw [show e4.2.length = e4.2.length from rfl]; exact of_decide_eq_true (by kernel_rfl)
theorem h4 : QiC 30 e3.2 1 0 2 = some e4 := by kernel_rfl
theorem o4 : okN e4.2 := (Qaj o3 h4).2.1
theorem n5 : e5.1 = 4 := by kernel_rfl
theorem z5 : e5.2.length ≤ 1000000 := by rw [show e5.2.length = e5.2.length from rfl]; exact of_decide_eq_true (by kernel_rfl)
theorem o5 : okN e5.2 := Xs o4 (by unfold i64; decide) (by unfold i64; decide)
theorem n6 : e6.1 = 0 := by kernel_rfl
theorem z6 : e6.2.length ≤ 1000000 := by rw [show e6.2.length = e6.2.length from rfl]; exact of_decide_eq_true (by kernel_rfl)
theorem h6 : QiC 30 e5.2 1 3 4 = some e6 := by kernel_rfl
theorem o6 : okN e6.2 := (Qaj o5 h6).2.1
theorem n7 : e7.1 = 6 := by kernel_rfl
theorem z7 : e7.2.length ≤ 1000000 := by rw [show e7.2.length = e7.2.length from rfl]; exact of_decide_eq_true (by kernel_rfl)
theorem o7 : okN e7.2 := Xs o6 (by unfold i64; decide) (by unfold i64; decide)
theorem n8 : e8.1 = 8 := by kernel_rfl
theorem z8 : e8.2.length ≤ 1000000 := by rw [show e8.2.length = e8.2.length from rfl]; exact of_decide_eq_true (by kernel_rfl)
theorem h8 : QiC 30 e7.2 11 0 6 = some e8 := by kernel_rfl
theorem o8 : okN e8.2 := (Qaj o7 h8).2.1
theorem n9 : e9.1 = 7 := by kernel_rfl
theorem z9 : e9.2.length ≤ 1000000 := by rw [show e9.2.length = e9.2.length from rfl]; exact of_decide_eq_true (by kernel_rfl)
theorem o9 : okN e9.2 := Xs o8 (by unfold i64; decide) (by unfold i64; decide)
theorem n10 : e10.1 = 8 := by kernel_rfl
theorem z10 : e10.2.length ≤ 1000000 := by rw [show e10.2.length = e10.2.length from rfl]; exact of_decide_eq_true (by kernel_rfl)
theorem h10 : QiC 30 e9.2 3 7 0 = some e10 := by kernel_rfl
theorem o10 : okN e10.2 := (Qaj o9 h10).2.1
theorem n11 : e11.1 = 9 := by kernel_rfl
theorem z11 : e11.2.length ≤ 1000000 := by rw [show e11.2.length = e11.2.length from rfl]; exact of_decide_eq_true (by kernel_rfl)
theorem h11 : QiC 30 e10.2 14 0 1 = some e11 := by kernel_rfl
theorem o11 : okN e11.2 := (Qaj o10 h11).2.1
theorem n12 : e12.1 = 10 := by kernel_rfl
theorem z12 : e12.2.length ≤ 1000000 := by rw [show e12.2.length = e12.2.length from rfl]; exact of_decide_eq_true (by kernel_rfl)
theorem h12 : QiC 30 e11.2 10 0 1 = some e12 := by kernel_rfl
theorem o12 : okN e12.2 := (Qaj o11 h12).2.1
theorem n13 : e13.1 = 11 := by kernel_rfl
theorem z13 : e13.2.length ≤ 1000000 := by rw [show e13.2.length = e13.2.length from rfl]; exact of_decide_eq_true (by kernel_rfl)
theorem o13 : okN e13.2 := Xs o12 (by unfold i64; decide) (by unfold i64; decide)
theorem n14 : e14.1 = 12 := by kernel_rfl
theorem z14 : e14.2.length ≤ 1000000 := by rw [show e14.2.length = e14.2.length from rfl]; exact of_decide_eq_true (by kernel_rfl)
theorem h14 : QiC 30 e13.2 15 10 11 = some e14 := by kernel_rfl
theorem o14 : okN e14.2 := (Qaj o13 h14).2.1
theorem n15 : e15.1 = 13 := by kernel_rfl
theorem z15 : e15.2.length ≤ 1000000 := by rw [show e15.2.length = e15.2.length from rfl]; exact of_decide_eq_true (by kernel_rfl)
theorem h15 : Qwb 30 e14.2 9 = some e15 := by kernel_rfl
theorem o15 : okN e15.2 := ok_not o14 h15
theorem n16 : e16.1 = 11 := by kernel_rfl
theorem z16 : e16.2.length ≤ 1000000 := by rw [show e16.2.length = e16.2.length from rfl]; exact of_decide_eq_true (by kernel_rfl)
theorem o16 : okN e16.2 := Xs o15 (by unfold i64; decide) (by unfold i64; decide)
theorem n17 : e17.1 = 13 := by kernel_rfl
theorem z17 : e17.2.length ≤ 1000000 := by rw [show e17.2.length = e17.2.length from rfl]; exact of_decide_eq_true (by kernel_rfl)
theorem h17 : QiC 30 e16.2 10 9 11 = some e17 := by kernel_rfl
theorem o17 : okN e17.2 := (Qaj o16 h17).2.1
theorem n18 : e18.1 = 12 := by kernel_rfl
theorem z18 : e18.2.length ≤ 1000000 := by rw [show e18.2.length = e18.2.length from rfl]; exact of_decide_eq_true (by kernel_rfl)
theorem h18 : QiC 30 e17.2 16 0 1 = some e18 := by kernel_rfl
theorem n19 : e19.1 = 14 := by kernel_rfl
theorem z19 : e19.2.length ≤ 1000000 := by rw [show e19.2.length = e19.2.length from rfl]; exact of_decide_eq_true (by kernel_rfl)
theorem Qy9 (hT : Qj P tab) (F : Fmt P G) (SO : ZG P) (hP : Bits P G) (hF : F.fmt = Qmu) : Pure P G Qz [] fun v => v = .bool true := by
 intro t
 refine Ql 0 (zL _) (Qx hT Qf (by simp [XZ]) (Qs 1000 ?_))
 simp -implicitDefEqProofs (disch := omega) only [go_sem, ↓reduceIte, XZ, zq6_0, zq6_1, zq6_2, zq6_3, zq6_4, zq6_5, zq6_6, zq6_7]
 refine call hT Qh2 (k_New hT F.fmt) 1000 fun v σ hv => ?_
 obtain ⟨v0, v1, a2, a3, a4, t0, ht0, rfl, rfl⟩ := hv
 refine ya ?_
 refine call hT Qh3 (show C P G 0 _ _ _ (Qbh F.fmt e1 v0 v1 [] _) from k_Sym hT F (n := 0) (by unfold i64; decide) (by decide)) 1000 fun v σ hv => ?_
 obtain ⟨rfl, u1, b1, c1, d1, hu1, rfl⟩ := hv
 simp -implicitDefEqProofs (disch := omega) only [go_sem, ↓reduceIte, reduceCtorEq, rq, n1]
 refine call hT Qh3 (show C P G 0 _ _ _ (Qbh F.fmt e2 v0 v1 [] _) from k_Sym hT F (n := 1) (by unfold i64; decide) (by exact z1)) 1000 fun v σ hv => ?_
 obtain ⟨rfl, u2, b2, c2, d2, hu2, rfl⟩ := hv
 simp -implicitDefEqProofs (disch := omega) only [go_sem, ↓reduceIte, reduceCtorEq, rq, n2]
 refine call hT Qc (show C P G 0 _ _ _ (Qbh F.fmt e3 v0 v1 [] _) from QkD hT F (n := 5) (by unfold i64; decide) z2) 1000 fun v σ hv => ?_
 obtain ⟨rfl, u3, b3, c3, d3, hu3, rfl⟩ := hv
 simp -implicitDefEqProofs (disch := omega) only [go_sem, ↓reduceIte, reduceCtorEq, rq, n3]
 refine call hT Qe (QbU hT F hP 30 o3 (by decide) z4 h4) 1000 fun v σ hv => ?_
 obtain ⟨rfl, u4, b4, c4, d4, hu4, rfl⟩ := hv
 simp -implicitDefEqProofs (disch := omega) only [go_sem, ↓reduceIte, reduceCtorEq, rq, n4]
 refine call hT Qc (show C P G 0 _ _ _ (Qbh F.fmt e5 v0 v1 [] _) from QkD hT F (n := (-5)) (by unfold i64; decide) z4) 1000 fun v σ hv => ?_
 obtain ⟨rfl, u5, b5, c5, d5, hu5, rfl⟩ := hv
 simp -implicitDefEqProofs (disch := omega) only [go_sem, ↓reduceIte, reduceCtorEq, rq, n5]
 refine call hT Qe (QbU hT F hP 30 o5 (by decide) z6 h6) 1000 fun v σ hv => ?_
 obtain ⟨rfl, u6, b6, c6, d6, hu6, rfl⟩ := hv
 simp -implicitDefEqProofs (disch := omega) only [go_sem, ↓reduceIte, reduceCtorEq, rq, n6]
 refine call hT Qc (show C P G 0 _ _ _ (Qbh F.fmt e7 v0 v1 [] _) from QkD hT F (n := 3) (by unfold i64; decide) z6) 1000 fun v σ hv => ?_
 obtain ⟨rfl, u7, b7, c7, d7, hu7, rfl⟩ := hv
 simp -implicitDefEqProofs (disch := omega) only [go_sem, ↓reduceIte, reduceCtorEq, rq, n7]
 refine call hT Qe (QbU hT F hP 30 o7 (by decide) z8 h8) 1000 fun v σ hv => ?_
 obtain ⟨rfl, u8, b8, c8, d8, hu8, rfl⟩ := hv
 simp -implicitDefEqProofs (disch := omega) only [go_sem, ↓reduceIte, reduceCtorEq, rq, n8]
 refine call hT Qc (show C P G 0 _ _ _ (Qbh F.fmt e9 v0 v1 [] _) from QkD hT F (n := 8) (by unfold i64; decide) z8) 1000 fun v σ hv => ?_
 obtain ⟨rfl, u9, b9, c9, d9, hu9, rfl⟩ := hv
 simp -implicitDefEqProofs (disch := omega) only [go_sem, ↓reduceIte, reduceCtorEq, rq, n9]
 refine call hT Qe (QbU hT F hP 30 o9 (by decide) z10 h10) 1000 fun v σ hv => ?_
 obtain ⟨rfl, u10, b10, c10, d10, hu10, rfl⟩ := hv
 simp -implicitDefEqProofs (disch := omega) only [go_sem, ↓reduceIte, reduceCtorEq, rq, n10]
 refine call hT Qe (QbU hT F hP 30 o10 (by decide) z11 h11) 1000 fun v σ hv => ?_
 obtain ⟨rfl, u11, b11, c11, d11, hu11, rfl⟩ := hv
 simp -implicitDefEqProofs (disch := omega) only [go_sem, ↓reduceIte, reduceCtorEq, rq, n11]
 refine call hT Qe (QbU hT F hP 30 o11 (by decide) z12 h12) 1000 fun v σ hv => ?_
 obtain ⟨rfl, u12, b12, c12, d12, hu12, rfl⟩ := hv
 simp -implicitDefEqProofs (disch := omega) only [go_sem, ↓reduceIte, reduceCtorEq, rq, n12]
 refine call hT Qc (show C P G 0 _ _ _ (Qbh F.fmt e13 v0 v1 [] _) from QkD hT F (n := 1) (by unfold i64; decide) z12) 1000 fun v σ hv => ?_
 obtain ⟨rfl, u13, b13, c13, d13, hu13, rfl⟩ := hv
 simp -implicitDefEqProofs (disch := omega) only [go_sem, ↓reduceIte, reduceCtorEq, rq, n13]
 refine call hT Qe (QbU hT F hP 30 o13 (by decide) z14 h14) 1000 fun v σ hv => ?_
 obtain ⟨rfl, u14, b14, c14, d14, hu14, rfl⟩ := hv
 have htx : QsP F.fmt e14.2 8 = [40, 115, 48, 32, 42, 32, 56, 41] := by rw [hF]; kernel_rfl
 simp -implicitDefEqProofs (disch := omega) only [go_sem, ↓reduceIte, reduceCtorEq, rA, rq, beq_self_eq_true, n14, beq_self_eq_true]
 refine call hT QcV (k_Text hT F SO z14 o14) 1000 fun v σ hv => ?_
 obtain ⟨rfl, ux, hux, rfl⟩ := hv
 rw [htx]
 refine ya ?_
 refine call hT Zh (Qws hT F hP 30 o14 z15 h15) 1000 fun v σ hv => ?_
 obtain ⟨rfl, u15, b15, c15, d15, hu15, rfl⟩ := hv
 simp -implicitDefEqProofs (disch := omega) only [go_sem, ↓reduceIte, reduceCtorEq, rA, rq, n15]
 refine call hT Qc (show C P G 0 _ _ _ (Qbh F.fmt e16 v0 v1 [] _) from QkD hT F (n := 1) (by unfold i64; decide) z15) 1000 fun v σ hv => ?_
 obtain ⟨rfl, u16, b16, c16, d16, hu16, rfl⟩ := hv
 simp -implicitDefEqProofs (disch := omega) only [go_sem, ↓reduceIte, reduceCtorEq, rA, rq, n16]
 refine call hT Qe (QbU hT F hP 30 o16 (by decide) z17 h17) 1000 fun v σ hv => ?_
 obtain ⟨rfl, u17, b17, c17, d17, hu17, rfl⟩ := hv
 simp -implicitDefEqProofs (disch := omega) only [go_sem, ↓reduceIte, reduceCtorEq, rA, rq, beq_self_eq_true, n17]
 refine call hT Qe (QbU hT F hP 30 o17 (by decide) z18 h18) 1000 fun v σ hv => ?_
 obtain ⟨rfl, u18, b18, c18, d18, hu18, rfl⟩ := hv
 simp -implicitDefEqProofs (disch := omega) only [go_sem, ↓reduceIte, reduceCtorEq, rA, rq, beq_self_eq_true, n18]
 refine call hT Qgm (show C P G 0 _ _ _ (Qbh F.fmt e19 v0 v1 [] _) from Qwt hT F (a := 0) (n := 0) (y := 0) (by unfold i64; decide) (by unfold i64; decide) z18) 1000 fun v σ hv => ?_
 obtain ⟨rfl, u19, b19, c19, d19, hu19, rfl⟩ := hv
 simp -implicitDefEqProofs (disch := omega) only [go_sem, ↓reduceIte, reduceCtorEq, rA, rq, zL, Qa, true_and, n19]
 rfl
end Go.Proofs.YtpdeoalocejodaaGreatDoor
