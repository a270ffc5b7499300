/- Contracts of a graph that New has made, with other objects behind. -/
import Derived.Test.YtpdeoalocejodaaGreatDoorJ1
import Derived.Test.YtpdeoalocejodaaGreatDoorAmD
open Nat renaming reduceEqDiff → rq, reduceAdd → rA, reduceLeDiff → rL, reduceLT → rT, zero_add → zA, le_refl → lR, zero_le → zL, add_zero → aZ
open List renaming length_cons → lC, length_nil → lN, take_succ_cons → tSq, length_append → lA, nil_append → nA, cons_append → cA, append_assoc → aA, take_nil → tN, take_zero → tZ, length_map → lM
open Bool renaming not_false → nF, not_true → nT
namespace Go.Proofs.YtpdeoalocejodaaGreatDoor
open Go Go.Am
set_option maxRecDepth 100000
variable {P : Program} {G : Nat → Option V}
set_option maxHeartbeats 1000000
def kG (fmt : Int → List UInt8) (v0 v1 v2 v3 v4 : Nat) (L : List Nd) : List (Option Ob) :=
 [some (.map v1 (Qgz 0 L)), some (.arr v0 85 [.sl 2 v2 0 6 L.length none, .mp 0 v1, .sl 3 v3 0 1 L.length none, .sl 4 v4 0 1 L.length none]), some (.arr v2 57 (ndC L)), some (.arr v3 3 ((QfS L).map (V.int .i64))), some (.arr v4 3 ((X1 fmt L).map (V.int .i64)))]
theorem Qe8 (r : Nat → Nat) : ∀ (k : Nat) (L : List Nd), (Qgz k L).map (fun p => (p.1, V.ren r p.2)) = Qgz k L
 | _, [] => rfl
 | k, d :: l => by simp only [Qgz, List.map_cons, Qe8 r (k + 1) l]; rw [V.ren_nameless _ rfl]
theorem QjM (r : Nat → Nat) (L : List Nd) : Qi2 r (ndC L) = ndC L := Ym _ (Qck L)
theorem Qhy (r : Nat → Nat) (L : List Int) : Qi2 r (L.map (V.int .i64)) = L.map (V.int .i64) := Ym _ (Zl L)
theorem QlE (k : Nat) (L : List Nd) : Yk k (ndC L) = true := QM _ (Qck L)
theorem QkA (k : Nat) (L : List Int) : Yk k (L.map (V.int .i64)) = true := QM _ (Zl L)
theorem Ql5 {α : Type} : ∀ (l : List α) (i : Nat) (x : α), l[i]? = some x → l.set i x = l
 | [], _, _, _ => rfl
 | a :: l, 0, x, h => by simp at h; simp [h]
 | a :: l, i + 1, x, h => by simp [Ql5 l i x (by simpa using h)]
theorem Qsd {fmt : Int → List UInt8} {f : Nat} {args : List V} {r : V} {v0 v1 v2 v3 v4 t : Nat} {L : List Nd} {ex : List (Option Ob)} {base : Nat} (h : C P G 5 f (.ptr 0 v0 0 :: args) ⟨t, gG fmt v0 v1 v2 v3 v4 L⟩ fun v σ => v = r ∧ ∃ t', t ≤ t' ∧ σ = ⟨t', gG fmt v0 v1 v2 v3 v4 L⟩)
 (ha : Qv args = true) (hr : Qn r = true) :
 C P G base f (.ptr 1 v0 0 :: args) ⟨t, kG fmt v0 v1 v2 v3 v4 L ++ ex⟩ fun v σ => v = r ∧ ∃ t', t ≤ t' ∧ σ = ⟨t', kG fmt v0 v1 v2 v3 v4 L ++ ex⟩ := by
 refine QxI [1, 0, 2, 3, 4] h rfl (by decide) ?_ ?_ ?_ (lR _) ?_ ?_ fun v σ hv => ?_
 ·simp [Qs7, kG]
 ·simp [QqB, gG, gH, gS, kG, Ob.under, Yk, V.under, Ob.ren, Qi2, V.ren, rOf, Qe8, QjM, Qhy, QlE, QkA, -List.all_eq_true, QfB]
 ·simp [QHB]
 ·simp [Yk, V.under, gG, gH, QM _ ha]
 ·simp only [Qi2, V.ren]
  rw [Ym _ ha]
  simp [rOf]
 ·obtain ⟨rfl, t', h1, rfl⟩ := hv
  refine ⟨by simp [gG, gH], V.ren_nameless _ hr, t', h1, ?_⟩
  simp [Qc0, QdZ, gG, gH, gS, kG, Ob.ren, Qi2, V.ren, rOf, Qe8, QjM, Qhy]
theorem Qgy (hT : Qj P tab) (F : Fmt P G) {v0 v1 v2 v3 v4 t : Nat} {L : List Nd} {ex : List (Option Ob)} (d : Nd) (hL : L.length ≤ 1000000) (hn : i64 d.n) (ha : i64 d.a) :
 C P G 0 ZH [.ptr 1 v0 0, .agg d.cells] ⟨t, kG F.fmt v0 v1 v2 v3 v4 L ++ ex⟩ fun v σ => v = .int .i64 (addN L d).1 ∧ ∃ t' v2' v3' v4', t ≤ t' ∧ σ = ⟨t', kG F.fmt v0 v1 v2' v3' v4' (addN L d).2 ++ ex⟩ := by
 refine QxI [1, 0, 2, 3, 4] (c_AddG hT F (v0 := v0) (v1 := v1) (v2 := v2) (v3 := v3) (v4 := v4) d hL hn ha) rfl (by decide) ?_ ?_ ?_ (zL _) rfl ?_ fun v σ hv => ?_
 ·simp [Qs7, kG]
 ·simp [QqB, gG, gH, gS, kG, Ob.under, Yk, V.under, Ob.ren, Qi2, V.ren, rOf, Qe8, QjM, Qhy, QlE, QkA, -List.all_eq_true, QfB]
 ·simp [QHB]
 ·simp [Qi2, V.ren, rOf, kG, Nd.cells]
 ·obtain ⟨rfl, t', v2', v3', v4', h1, rfl⟩ := hv
  refine ⟨by simp [gG, gH], by simp [V.ren], t', v2', v3', v4', h1, ?_⟩
  simp [Qc0, QdZ, gG, gH, gS, kG, Ob.ren, Qi2, V.ren, rOf, Qe8, QjM, Qhy]
theorem Qhz (hT : Qj P tab) {base : Nat} {fmt : Int → List UInt8} {v0 v1 v2 v3 v4 t : Nat} {L : List Nd} {ex : List (Option Ob)} :
 C P G base QaZ [.ptr 1 v0 0] ⟨t, kG fmt v0 v1 v2 v3 v4 L ++ ex⟩ fun v σ => v = .int .i64 L.length ∧ ∃ t', t ≤ t' ∧ σ = ⟨t', kG fmt v0 v1 v2 v3 v4 L ++ ex⟩ :=
 Qsd ((c_Size hT).conseq fun v σ h => ⟨h.1, t, lR _, h.2⟩) rfl rfl
theorem Qfa (hT : Qj P tab) {base : Nat} {fmt : Int → List UInt8} {v0 v1 v2 v3 v4 t : Nat} {L : List Nd} {ex : List (Option Ob)} {id : Int} :
 C P G base Zj [.ptr 1 v0 0, .int .i64 id] ⟨t, kG fmt v0 v1 v2 v3 v4 L ++ ex⟩ fun v σ => v = (if 0 ≤ id ∧ id < L.length then .tup [.agg (L.getD id.toNat zeroNd).cells, .bool true] else .tup [.agg zeroNd.cells, .bool false]) ∧ ∃ t', t ≤ t' ∧ σ = ⟨t', kG fmt v0 v1 v2 v3 v4 L ++ ex⟩ :=
 Qsd (c_Node hT (lR _)) rfl (by split <;> rfl)
theorem QD5 (hT : Qj P tab) (SO : ZG P) {base : Nat} {fmt : Int → List UInt8} {v0 v1 v2 v3 v4 t : Nat} {L : List Nd} {ex : List (Option Ob)} (hL : L.length ≤ 1000000) (hwf : gwf L) (roots : List Int) (z : Nat) (tight : Bool) (hz : z = 1 ∨ roots = []) (hrl : roots.length ≤ 9223372036854775806) :
 C P G base QaX [.ptr 1 v0 0, .lst z (roots.map (V.int .i64)) tight] ⟨t, kG fmt v0 v1 v2 v3 v4 L ++ ex⟩ fun v σ => v = .lst 1 ((QN L roots).map (V.int .i64)) false ∧ ∃ t', t ≤ t' ∧ σ = ⟨t', kG fmt v0 v1 v2 v3 v4 L ++ ex⟩ :=
 Qsd (QEk hT SO (lR _) hL hwf roots z tight hz hrl) rfl rfl
theorem kG_5 {fmt : Int → List UInt8} {v0 v1 v2 v3 v4 : Nat} {L : List Nd} {ex : List (Option Ob)} {x0 : Option Ob} : (kG fmt v0 v1 v2 v3 v4 L ++ x0 :: ex)[5]? = some x0 := rfl
theorem kGs_5 {fmt : Int → List UInt8} {v0 v1 v2 v3 v4 : Nat} {L : List Nd} {ex : List (Option Ob)} {x0 y : Option Ob} : (kG fmt v0 v1 v2 v3 v4 L ++ x0 :: ex).set 5 y = kG fmt v0 v1 v2 v3 v4 L ++ y :: ex := rfl
theorem kG_6 {fmt : Int → List UInt8} {v0 v1 v2 v3 v4 : Nat} {L : List Nd} {ex : List (Option Ob)} {x0 x1 : Option Ob} : (kG fmt v0 v1 v2 v3 v4 L ++ x0 :: x1 :: ex)[6]? = some x1 := rfl
theorem kGs_6 {fmt : Int → List UInt8} {v0 v1 v2 v3 v4 : Nat} {L : List Nd} {ex : List (Option Ob)} {x0 x1 y : Option Ob} : (kG fmt v0 v1 v2 v3 v4 L ++ x0 :: x1 :: ex).set 6 y = kG fmt v0 v1 v2 v3 v4 L ++ x0 :: y :: ex := rfl
theorem QHx {fmt : Int → List UInt8} {v0 v1 v2 v3 v4 : Nat} {L : List Nd} {ex : List (Option Ob)} {x0 x1 x2 : Option Ob} : (kG fmt v0 v1 v2 v3 v4 L ++ x0 :: x1 :: x2 :: ex)[7]? = some x2 := rfl
theorem kGs_7 {fmt : Int → List UInt8} {v0 v1 v2 v3 v4 : Nat} {L : List Nd} {ex : List (Option Ob)} {x0 x1 x2 y : Option Ob} : (kG fmt v0 v1 v2 v3 v4 L ++ x0 :: x1 :: x2 :: ex).set 7 y = kG fmt v0 v1 v2 v3 v4 L ++ x0 :: x1 :: y :: ex := rfl
theorem kG_8 {fmt : Int → List UInt8} {v0 v1 v2 v3 v4 : Nat} {L : List Nd} {ex : List (Option Ob)} {x0 x1 x2 x3 : Option Ob} : (kG fmt v0 v1 v2 v3 v4 L ++ x0 :: x1 :: x2 :: x3 :: ex)[8]? = some x3 := rfl
theorem kGs_8 {fmt : Int → List UInt8} {v0 v1 v2 v3 v4 : Nat} {L : List Nd} {ex : List (Option Ob)} {x0 x1 x2 x3 y : Option Ob} : (kG fmt v0 v1 v2 v3 v4 L ++ x0 :: x1 :: x2 :: x3 :: ex).set 8 y = kG fmt v0 v1 v2 v3 v4 L ++ x0 :: x1 :: x2 :: y :: ex := rfl
theorem kG_9 {fmt : Int → List UInt8} {v0 v1 v2 v3 v4 : Nat} {L : List Nd} {ex : List (Option Ob)} {x0 x1 x2 x3 x4 : Option Ob} : (kG fmt v0 v1 v2 v3 v4 L ++ x0 :: x1 :: x2 :: x3 :: x4 :: ex)[9]? = some x4 := rfl
theorem Qcp {fmt : Int → List UInt8} {v0 v1 v2 v3 v4 : Nat} {L : List Nd} {ex : List (Option Ob)} : (kG fmt v0 v1 v2 v3 v4 L ++ ex).length = 5 + ex.length := by simp [kG]; omega
theorem QkE {fmt : Int → List UInt8} {v0 v1 v2 v3 v4 : Nat} {L : List Nd} {ex : List (Option Ob)} {y : List (Option Ob)} : (kG fmt v0 v1 v2 v3 v4 L ++ ex) ++ y = kG fmt v0 v1 v2 v3 v4 L ++ (ex ++ y) := by simp
def Qef (l : List Nd) : List Nd := l.foldl (fun L d => (addN L d).2) []
theorem Qop (l : List Nd) : ∀ L : List Nd, (l.foldl (fun L d => (addN L d).2) L).length ≤ L.length + l.length := by
 induction l with
 | nil => intro L; simp
 | cons d l ih =>
   intro L
   have h1 := ih (addN L d).2
   have h2 : (addN L d).2.length ≤ L.length + 1 := by
    unfold addN
    split
    ·split <;> simp
    ·simp
   simp only [List.foldl_cons, lC]; omega
theorem Qxm (hT : Qj P tab) (F : Fmt P G) {t : Nat} (l : List Nd) (tight : Bool) (hl : ∀ d ∈ l, i64 d.n ∧ i64 d.a) (hll : l.length ≤ 1000) :
 C P G 0 QbQ [.lst 6 (l.map fun d => .agg d.cells) tight] ⟨t, []⟩ fun v σ => ∃ v0 v1 v2 v3 v4 t' u, t ≤ t' ∧ v = .tup [.ptr 1 v0 0, u] ∧ σ = ⟨t', kG F.fmt v0 v1 v2 v3 v4 (Qef l)⟩ := by
 refine Ql 5 (zL _) (Qx hT YM (by simp [YE]) (Qs 1000 ?_))
 simp -implicitDefEqProofs (disch := omega) only [go_sem, ↓reduceIte, reduceCtorEq, rq, YE, zqm_0, zqm_1, zqm_2, zqm_3, zqm_4, zqm_5, zqm_6, zqm_7]
 refine call hT Qh2 (c_New hT (zL _)) 1000 fun v σ hv => ?_
 obtain ⟨v0, v1, v2, v3, v4, t1, i1, i2, i3, i4, ht1, rfl, rfl, rfl, rfl, rfl, rfl⟩ := hv
 simp -implicitDefEqProofs (disch := omega) only [go_sem, ↓reduceIte, reduceCtorEq, rq, zA, lN, nA]
 refine Z4 (Shift.own (s := 5) (sz := 1) (T := 26) (z := 0) rfl (by decide)) (QI 1000 ?_)
 simp -implicitDefEqProofs (disch := omega) only [go_sem, ↓reduceIte, reduceCtorEq, rA, rq, zA, lN, nA, lC, cA]
 refine Qfv (fun m fr σ => ∃ (i t' v2' v3' v4' r' : Nat) (L : List Nd) (O : List Int), i ≤ l.length ∧ m = l.length - i ∧ L = Qef (l.take i) ∧ O.length = i ∧ t ≤ t' ∧ Qt fr 0 = .lst 6 (l.map fun d => .agg d.cells) tight ∧ Qt fr 4 = .ptr 1 v0 0 ∧ Qt fr 5 = .sl 5 r' 0 1 i none ∧ Qt fr 6 = .int .i64 i ∧
  σ = ⟨t', kG F.fmt v0 v1 v2' v3' v4' L ++ [some (.arr r' 26 (O.map (V.int .i64)))]⟩)
  (fun e fr σ => e = .ex 0 ∧ Qt fr 4 = .ptr 1 v0 0 ∧ ∃ (t' v2' v3' v4' r' : Nat) (x : Option Ob), t ≤ t' ∧ Qt fr 5 = .sl 5 r' 0 1 l.length none ∧ σ = ⟨t', kG F.fmt v0 v1 v2' v3' v4' (Qef l) ++ [x]⟩)
  (m0 := l.length) ⟨0, t1 + 1, v2, v3, v4, t1, [], [], zL _, rfl, rfl, rfl, by omega, ?_⟩ (fun m fr σ hJ => ?_) (fun e fr σ hE => ?_)
 ·refine ya ?_
  exact ⟨rfl, rfl⟩
 ·obtain ⟨i, t', v2', v3', v4', r', L, O, hi, rfl, hLe, hO, ht', f0, f4, f5, f6, rfl⟩ := hJ
  have hLl : L.length ≤ i := by
   have := Qop (l.take i) []
   rw [hLe]; simp [Qef] at this ⊢; omega
  refine Qs 1000 ?_
  rcases Nat.lt_or_ge i l.length with hlt | hge
  ·obtain ⟨d, hd⟩ : ∃ d, l[i]? = some d := ⟨_, List.getElem?_eq_getElem hlt⟩
   obtain ⟨hn, ha⟩ := hl d (List.mem_of_getElem? hd)
   have hc6 : d.cells.length = 6 := rfl
   have ht6 : d.cells.take 6 = d.cells := rfl
   have hg : (l.map fun d => V.agg d.cells).getD i .any = .agg d.cells := by simp [List.getD_eq_getElem?_getD, hd]
   simp -implicitDefEqProofs (disch := omega) only [go_sem, Qr, ↓reduceIte, reduceCtorEq, rq, Nat.succ_ne_zero, zA, decide_true, lR, lM, f0, f4, f5, f6, hlt, hg, hc6, ht6]
   refine call hT Qw (Qgy hT F d (by omega) hn ha) 1000 fun v σ hv => ?_
   obtain ⟨rfl, t2, w2, w3, w4, ht2, rfl⟩ := hv
   simp -implicitDefEqProofs (disch := omega) only [go_sem, Qr, ↓reduceIte, reduceCtorEq, rq, rL, zA, Nat.mul_one, nT, lR, zL, lM, f6, kG_5, kGs_5, hO]
   refine ⟨l.length - (i + 1), _, _, by omega, Shift.refl _ _ _ _, i + 1, t2 + 1, w2, w3, w4, t2, (addN L d).2, O ++ [(addN L d).1], hlt, rfl, ?_, by simp [hO], by omega, ?_⟩
   ·rw [List.take_add_one, hd, Option.toList_some, Qef, List.foldl_append, hLe]; rfl
   ·have hw : IntKind.i64.wrap ((i : Int) + 1) = ((i + 1 : Nat) : Int) := by
     rw [wrap_i64 (by omega) (by omega)]; rfl
    simp -implicitDefEqProofs (disch := omega) only [go_sem, ↓reduceIte, reduceCtorEq, rq, Nat.succ_ne_zero, f0, f4, hw, List.map_append]
    try exact ⟨rfl, rfl⟩
    try rfl
  ·simp -implicitDefEqProofs (disch := omega) only [go_sem, ↓reduceIte, rq, Nat.succ_ne_zero, decide_false, lM, f0, f4, f5, f6, show ¬ i < l.length from by omega]
   have hil : i = l.length := by omega
   subst hil
   rw [List.take_length] at hLe
   exact ⟨t', v2', v3', v4', r', _, ht', rfl, rfl, by rw [hLe]⟩
 ·obtain ⟨rfl, f4, t', v2', v3', v4', r', x, ht', f5, rfl⟩ := hE
  refine QI 1000 ?_
  simp -implicitDefEqProofs (disch := omega) only [go_sem, ↓reduceIte, rA, rq, rL, zA, f4, f5, Qcp]
  exact ⟨v0, v1, v2', v3', v4', _, _, ht', rfl, rfl, by simp [kG]⟩
end Go.Proofs.YtpdeoalocejodaaGreatDoor
namespace Go.Proofs.YtpdeoalocejodaaGreatDoor
open Go Go.Am
set_option maxRecDepth 100000
set_option maxHeartbeats 1000000
def okN (L : List Nd) : Prop := ∀ (i : Nat) (d : Nd), L[i]? = some d → i64 d.n ∧ i64 d.a ∧ d.may i = true
theorem Qe6 {d : Nd} {i : Nat} (h : d.may i = true) : (∀ p ∈ d.parts, 0 ≤ p ∧ p < i) ∧ (0 ≤ d.op ∧ d.op ≤ 16) ∧ (d.kind = 1 ∨ d.kind = 2 ∨ d.kind = 3 ∨ d.kind = 4) := by
 simp only [Nd.may] at h
 refine ⟨?_, ?_, ?_⟩
 ·simp only [Nd.parts]; grind
 ·grind
 ·grind
theorem okN.wf {L : List Nd} (h : okN L) : gwf L := fun i d hd p hp => (Qe6 (h i d hd).2.2).1 p hp
theorem QF5 : okN [] := fun i d h => by simp at h
theorem Xs {L : List Nd} (h : okN L) {d : Nd} (hn : i64 d.n) (ha : i64 d.a) : okN (addN L d).2 := by
 unfold addN
 split
 ·rename_i hm
  split
  ·exact h
  ·intro i e he
   by_cases hi : i < L.length
   ·rw [List.getElem?_append_left hi] at he; exact h i e he
   ·have : i = L.length := by
     have := (List.getElem?_eq_some_iff.1 he).1
     simp at this; omega
    subst this
    simp at he; subst he
    exact ⟨hn, ha, hm⟩
 ·exact h
theorem Qcu (L : List Nd) (d : Nd) : L <+: (addN L d).2 := by
 unfold addN
 split
 ·split
  ·exact List.prefix_rfl
  ·exact List.prefix_append _ _
 ·exact List.prefix_rfl
theorem Qr3 : ∀ (l : List Nd) (L : List Nd), okN L → (∀ d ∈ l, i64 d.n ∧ i64 d.a) → okN (l.foldl (fun L d => (addN L d).2) L)
 | [], _, h, _ => h
 | d :: l, L, h, hl => Qr3 l _ (Xs h (hl d (by simp)).1 (hl d (by simp)).2) fun e he => hl e (by simp [he])
theorem Qyw (l : List Nd) (hl : ∀ d ∈ l, i64 d.n ∧ i64 d.a) : okN (Qef l) := Qr3 l [] QF5 hl
def pts (L : List Nd) (x : Int) : List Int := (L.getD x.toNat zeroNd).parts
theorem Qly {L : List Nd} (h : gwf L) {x : Int} (h0 : 0 ≤ x) (h1 : x < L.length) : ∀ p ∈ pts L x, 0 ≤ p ∧ p < x := by
 intro p hp
 obtain ⟨d, hd⟩ : ∃ d, L[x.toNat]? = some d := ⟨_, List.getElem?_eq_getElem (by omega)⟩
 have : pts L x = d.parts := by simp [pts, List.getD_eq_getElem?_getD, hd]
 rw [this] at hp
 have := h _ d hd p hp
 omega
theorem Qlp (L : List Nd) (f : Nat) (id : Int) (S : List Int) : Ze L (f + 1) id S = if 0 ≤ id ∧ id < L.length ∧ id ∉ S then (pts L id).foldl (fun S p => Ze L f p S) (S ++ [id]) else S := rfl
theorem Qj6 {L : List Nd} {Q : Int → Prop} (hq : ∀ x : Int, 0 ≤ x → x < L.length → Q x → ∀ p ∈ pts L x, Q p) : ∀ (f : Nat) (id : Int) (S : List Int), (0 ≤ id → id < L.length → Q id) → (∀ x ∈ S, Q x) → ∀ x ∈ Ze L f id S, Q x
 | 0, _, _, _, hS => hS
 | f + 1, id, S, hid, hS => by
   rw [Qlp]
   split
   ·rename_i hc
    have hfold : ∀ (ps : List Int) (S : List Int), (∀ p ∈ ps, Q p) → (∀ x ∈ S, Q x) → ∀ x ∈ ps.foldl (fun S p => Ze L f p S) S, Q x := fun ps => by
     induction ps with
     | nil => intro S _ hS; exact hS
     | cons p ps ih => intro S hp hS; exact ih _ (fun q hq' => hp q (by simp [hq'])) (Qj6 hq f p S (fun _ _ => hp p (by simp)) hS)
    refine hfold _ _ (hq id hc.1 hc.2.1 (hid hc.1 hc.2.1)) fun x hx => ?_
    simp only [List.mem_append, List.mem_singleton] at hx
    rcases hx with hx | rfl
    ·exact hS x hx
    ·exact hid hc.1 hc.2.1
   ·exact hS
theorem Qdl {L : List Nd} (hwf : gwf L) : ∀ (f : Nat) (id : Int) (S : List Int), id.toNat < f → (∀ x ∈ S, x ∈ Ze L f id S) ∧ (0 ≤ id → id < L.length → id ∈ Ze L f id S) ∧ ∀ x ∈ Ze L f id S, x ∉ S → ∀ p ∈ pts L x, p ∈ Ze L f id S
 | 0, _, _, h => by omega
 | f + 1, id, S, hf => by
   have hfold : ∀ (ps : List Int) (S : List Int), (∀ p ∈ ps, p.toNat < f) → (∀ x ∈ S, x ∈ ps.foldl (fun S p => Ze L f p S) S) ∧ (∀ p ∈ ps, 0 ≤ p → p < L.length → p ∈ ps.foldl (fun S p => Ze L f p S) S) ∧ ∀ x ∈ ps.foldl (fun S p => Ze L f p S) S, x ∉ S → ∀ p ∈ pts L x, p ∈ ps.foldl (fun S p => Ze L f p S) S := fun ps => by
    induction ps with
    | nil => intro S _; exact ⟨fun x h => h, fun p h => by simp at h, fun x h h' => absurd h h'⟩
    | cons q ps ih =>
      intro S hps
      obtain ⟨a1, a2, a3⟩ := Qdl hwf f q S (hps q (by simp))
      obtain ⟨b1, b2, b3⟩ := ih (Ze L f q S) fun p hp => hps p (by simp [hp])
      refine ⟨fun x hx => b1 x (a1 x hx), fun p hp h0 h1 => ?_, fun x hx hxS p hp => ?_⟩
      ·simp only [List.mem_cons] at hp
       rcases hp with rfl | hp
       ·exact b1 _ (a2 h0 h1)
       ·exact b2 p hp h0 h1
      ·by_cases hxw : x ∈ Ze L f q S
       ·exact b1 _ (a3 x hxw hxS p hp)
       ·exact b3 x hx hxw p hp
   rw [Qlp]
   split
   ·rename_i hc
    have hp := Qly hwf hc.1 hc.2.1
    obtain ⟨a1, a2, a3⟩ := hfold (pts L id) (S ++ [id]) fun p hp' => by have := hp p hp'; omega
    refine ⟨fun x hx => a1 x (by simp [hx]), fun _ _ => a1 id (by simp), fun x hx hxS p hpx => ?_⟩
    by_cases hxi : x = id
    ·subst hxi
     have := hp p hpx
     exact a2 p hpx this.1 (by omega)
    ·exact a3 x hx (by simp [hxS, hxi]) p hpx
   ·rename_i hc
    refine ⟨fun x h => h, fun h0 h1 => ?_, fun x h h' => absurd h h'⟩
    by_cases hm : id ∈ S
    ·exact hm
    ·exact absurd ⟨h0, h1, hm⟩ hc
theorem Qmk {L : List Nd} {roots : List Int} {x : Int} : x ∈ QN L roots ↔ x ∈ walks L roots [] := by
 unfold QN; exact List.mem_mergeSort
theorem Qhx {L : List Nd} {id x : Int} : x ∈ QN L [id] ↔ x ∈ Ze L (id.toNat + 1) id [] := by
 rw [Qmk]; simp [walks]
theorem QeG {L : List Nd} {roots : List Int} : ∀ x ∈ QN L roots, 0 ≤ x ∧ x < L.length := fun x hx =>
 (QcX L roots [] ⟨List.nodup_nil, by simp⟩).2 x (Qmk.1 hx)
theorem Qfo {L : List Nd} {roots : List Int} : (QN L roots).Nodup :=
 (List.mergeSort_perm _ _).nodup_iff.2 (QcX L roots [] ⟨List.nodup_nil, by simp⟩).1
theorem Qgk {L : List Nd} {roots : List Int} : (QN L roots).Pairwise (· < ·) := by
 have h1 : (QN L roots).Pairwise (fun a b => decide (a ≤ b) = true) := List.pairwise_mergeSort (fun a b c h1 h2 => by simp at h1 h2 ⊢; omega) (fun a b => by simp; omega) _
 have h2 : (QN L roots).Pairwise (· ≠ ·) := Qfo
 refine (h1.and h2).imp fun {a b} h => ?_
 have := h.1
 simp at this
 have := h.2
 omega
theorem QeF {L : List Nd} (hwf : gwf L) {id : Int} (h0 : 0 ≤ id) (h1 : id < L.length) : id ∈ QN L [id] := Qhx.2 ((Qdl hwf (id.toNat + 1) id [] (by omega)).2.1 h0 h1)
theorem Qdm {L : List Nd} (hwf : gwf L) {id x p : Int} (hx : x ∈ QN L [id]) (hp : p ∈ pts L x) : p ∈ QN L [id] :=
 Qhx.2 ((Qdl hwf (id.toNat + 1) id [] (by omega)).2.2 x (Qhx.1 hx) (by simp) p hp)
theorem Qha {L : List Nd} {Q : Int → Prop} {id : Int} (hq : ∀ x : Int, 0 ≤ x → x < L.length → Q x → ∀ p ∈ pts L x, Q p) (hid : Q id) : ∀ x ∈ QN L [id], Q x := fun x hx =>
 Qj6 hq _ id [] (fun _ _ => hid) (by simp) x (Qhx.1 hx)
theorem QvJ {L : List Nd} (hwf : gwf L) {id : Int} : ∀ x ∈ QN L [id], x ≤ id :=
 Qha (Q := fun x => x ≤ id) (fun x h0 h1 h p hp => by have := Qly hwf h0 h1 p hp; omega) (Int.le_refl _)
variable {P : Program} {G : Nat → Option V}
theorem under_nameless (k : Nat) {v : V} (h : Qn v = true) : V.under k v = true := by
 have := QM (k := k) [v] (by simp [Qv, h])
 simpa [Yk] using this
end Go.Proofs.YtpdeoalocejodaaGreatDoor
namespace Go.Am
open Go
variable {P : Program} {G : Nat → Option V}
set_option maxHeartbeats 1000000
end Go.Am
namespace Go.Proofs.YtpdeoalocejodaaGreatDoor
open Go Go.Am
set_option maxRecDepth 100000
variable {P : Program} {G : Nat → Option V}
set_option maxHeartbeats 1000000
theorem ZM {α : Type} {L : List α} {i : Nat} {d : α} (h : L[i]? = some d) : L.take (i + 1) = L.take i ++ [d] := by rw [List.take_add_one, h]; rfl
theorem Qoo {L : List Nd} (hwf : gwf L) : ∀ (roots S : List Int), (∀ x ∈ S, ∀ p ∈ pts L x, p ∈ S) → ∀ x, x ∈ walks L roots S ↔ x ∈ S ∨ ∃ r ∈ roots, (0 ≤ r ∧ r < L.length) ∧ x ∈ QN L [r]
 | [], S, _, x => by simp [walks]
 | r :: roots, S, hS, x => by
   have hw : walks L (r :: roots) S = walks L roots (Ze L (r.toNat + 1) r S) := rfl
   obtain ⟨w1, w2, w3⟩ := Qdl hwf (r.toNat + 1) r S (by omega)
   have hc : ∀ x ∈ Ze L (r.toNat + 1) r S, ∀ p ∈ pts L x, p ∈ Ze L (r.toNat + 1) r S := fun x hx p hp => by
    by_cases h : x ∈ S
    ·exact w1 p (hS x h p hp)
    ·exact w3 x hx h p hp
   have hm : ∀ x, x ∈ Ze L (r.toNat + 1) r S ↔ x ∈ S ∨ ((0 ≤ r ∧ r < L.length) ∧ x ∈ QN L [r]) := fun x => by
    constructor
    ·intro hx
     exact Qj6 (Q := fun x => x ∈ S ∨ ((0 ≤ r ∧ r < L.length) ∧ x ∈ QN L [r])) (fun z _ _ hz p hp => by
      rcases hz with hz | ⟨hr, hz⟩
      ·exact .inl (hS z hz p hp)
      ·exact .inr ⟨hr, Qdm hwf hz hp⟩) (r.toNat + 1) r S (fun h0 h1 => .inr ⟨⟨h0, h1⟩, QeF hwf h0 h1⟩) (fun z hz => .inl hz) x hx
    ·rintro (hx | ⟨hr, hx⟩)
     ·exact w1 x hx
     ·exact Qha (Q := fun x => x ∈ Ze L (r.toNat + 1) r S) (fun z _ _ hz p hp => hc z hz p hp) (w2 hr.1 hr.2) x hx
   rw [hw, Qoo hwf roots _ hc x, hm x]
   simp only [List.mem_cons, exists_eq_or_imp, or_assoc]
theorem Qa {fmt : Int → List UInt8} {v0 v1 v2 v3 v4 : Nat} {L : List Nd} : (kG fmt v0 v1 v2 v3 v4 L).length = 5 := rfl
structure SortF (P : Program) (f : FuncId) : Prop where
 some : ∀ (blk off cap : Nat) (zs : List Int) (w : World), Go.Sort.Holds (Value.int .i64) w blk off zs.toArray → blk < w.heap.size → zs.length < 4611686018427387904 →
  Calls P f #[.slice (some ⟨blk, off, none⟩) zs.length cap] w fun e w' => e = .returned (.tuple #[]) ∧ ∃ n os, w' = Go.Sort.grow (Go.Sort.putRow (Value.int .i64) (Go.Sort.ahead w n) blk off (zs.mergeSort fun x y => decide (x ≤ y)).toArray) os
 none : ∀ (p : Option Addr) (cap : Nat) (w : World), Calls P f #[.slice p 0 cap] w fun e w' => e = .returned (.tuple #[]) ∧ w' = w
def nd (L : List Nd) (x : Int) : Nd := L.getD x.toNat zeroNd
def Q7 (l : List Int) : List V := l.map (V.int .i64)
theorem Xe (l : List Int) : (Q7 l).length = l.length := by simp [Q7]
theorem QvF {i n : Nat} (h : i < n) (hn : n ≤ 9223372036854775807) : IntKind.i64.wrap ((i : Int) + 1) = ((i + 1 : Nat) : Int) := by rw [wrap_i64 (by omega) (by omega)]; rfl
theorem Qk3 (l : List Int) : Qv (Q7 l) = true := by
 induction l with
 | nil => rfl
 | cons a l ih =>
   show (Qn (V.int .i64 a) && Qv (Q7 l)) = true
   rw [ih]; rfl
theorem frz_n {k w : Nat} (l : List Int) : Qc3 k w (Q7 l) (.sl k w 0 1 l.length none) = .lst 1 (Q7 l) false := by
 have := frz_sl (k := k) (w := w) (sz := 1) (cs := Q7 l) (fun u hu => by
  obtain ⟨a, _, rfl⟩ := List.mem_map.1 hu
  rfl)
 rwa [Xe] at this
def Qw4 (a b : Int) : Int := if b = 0 then -1 else if b = -1 then IntKind.i64.wrap (0 - a) else IntKind.i64.wrap (a.tdiv b)
def QpP (a b : Int) : Int := if b = 0 then a else if b = -1 then 0 else a.tmod b
def divN (a b : Int) : Int := if b = 0 then -1 else IntKind.i64.wrap (IntKind.u64.wrap ((IntKind.u64.wrap a).tdiv (IntKind.u64.wrap b)))
def QrX (a b : Int) : Int := if b = 0 then a else IntKind.i64.wrap ((IntKind.u64.wrap a).tmod (IntKind.u64.wrap b))
def Two (P : Program) (G : Nat → Option V) (f : Nat) (d : Int → Int → Int) : Prop := ∀ a b : Int, i64 a → i64 b → Pure P G f [.int .i64 a, .int .i64 b] fun v => v = .int .i64 (d a b)
theorem QFJ (hT : Qj P tab) (b : Bool) : Pure P G QlA [.bool b] fun v => v = .int .i64 (if b = true then 1 else 0) := by
 intro t
 refine Ql 0 (zL _) (Qx hT Qfu (by simp [Qfm]) (Qs 1000 ?_))
 cases b
 ·simp -implicitDefEqProofs (disch := omega) only [go_sem, ↓reduceIte, reduceCtorEq, rq, lR, Qfm, QuK, QuJ, QuI, QuH, Bool.false_eq_true, and_true]
 ·simp -implicitDefEqProofs (disch := omega) only [go_sem, ↓reduceIte, reduceCtorEq, rq, lR, Qfm, QuK, QuJ, QuI, QuH, and_true]
theorem Qq (x : Int) : i64 (IntKind.i64.wrap x) := by
 simp [i64, IntKind.wrap, IntKind.signed, IntKind.bits]
 omega
theorem QHf (b : Int) : 0 ≤ QaO IntKind.i64 b 63 := by
 have h1 : (BitVec.ofInt IntKind.i64.bits b &&& BitVec.ofInt IntKind.i64.bits 63).toNat ≤ 63 := by
  rw [BitVec.toNat_and]
  exact Nat.and_le_right
 rw [QaO, wrap_i64 (by omega) (by omega)]
 omega
theorem w_div (hT : Qj P tab) : Two P G Qh9 Qw4 := by
 intro a b ha hb t
 refine Ql 0 (zL _) (Qx hT Qlu (by simp [Qdk]) (Qs 1000 ?_))
 by_cases h0 : b = 0
 ·subst h0
  simp -implicitDefEqProofs (disch := omega) only [go_sem, ↓reduceIte, reduceCtorEq, rq, zA, lR, beq_self_eq_true, Qdk, QrD, QrC, QrB, QrA, Qrz, Qry, Qrx, Qw4]
 ·by_cases h1 : b = -1
  ·subst h1
   simp -implicitDefEqProofs (disch := omega) only [go_sem, ↓reduceIte, reduceCtorEq, rq, zA, lR, beq_self_eq_true, Qdk, QrD, QrC, QrB, QrA, Qrz, Qry, Qrx, Qw4, false_implies, true_implies, true_and, and_true]
  ·have h0' : decide (b = 0) = false := by simpa using h0
   have h1' : decide (b = -1) = false := by simpa using h1
   simp -implicitDefEqProofs (disch := omega) only [go_sem, ↓reduceIte, reduceCtorEq, rq, zA, lR, Qdk, QrD, QrC, QrB, QrA, Qrz, Qry, Qrx, Qw4, h0, h1, false_implies, true_implies, true_and, and_true]
theorem w_rem (hT : Qj P tab) : Two P G Qh8 QpP := by
 intro a b ha hb t
 refine Ql 0 (zL _) (Qx hT Qlt (by simp [Qdj]) (Qs 1000 ?_))
 by_cases h0 : b = 0
 ·subst h0
  simp -implicitDefEqProofs (disch := omega) only [go_sem, ↓reduceIte, reduceCtorEq, rq, zA, lR, beq_self_eq_true, Qdj, Qrw, Qrv, Qru, Qrt, Qrs, Qrr, Qrq, QpP]
 ·by_cases h1 : b = -1
  ·subst h1
   simp -implicitDefEqProofs (disch := omega) only [go_sem, ↓reduceIte, reduceCtorEq, rq, zA, lR, beq_self_eq_true, Qdj, Qrw, Qrv, Qru, Qrt, Qrs, Qrr, Qrq, QpP, false_implies, true_implies, true_and, and_true]
  ·have h0' : decide (b = 0) = false := by simpa using h0
   have h1' : decide (b = -1) = false := by simpa using h1
   simp -implicitDefEqProofs (disch := omega) only [go_sem, ↓reduceIte, reduceCtorEq, rq, zA, lR, Qdj, Qrw, Qrv, Qru, Qrt, Qrs, Qrr, Qrq, QpP, h0, h1, false_implies, true_implies, true_and, and_true]
theorem QDM {b : Int} (hb : i64 b) (h : b ≠ 0) : IntKind.u64.wrap b ≠ 0 := by
 unfold i64 at hb
 unfold IntKind.wrap
 simp only [IntKind.signed, IntKind.bits]
 omega
theorem w_divU (hT : Qj P tab) : Two P G Qgu divN := by
 intro a b ha hb t
 refine Ql 0 (zL _) (Qx hT Qkd (by simp [QcM]) (Qs 1000 ?_))
 by_cases h0 : b = 0
 ·subst h0
  simp -implicitDefEqProofs (disch := omega) only [go_sem, ↓reduceIte, reduceCtorEq, rq, zA, lR, beq_self_eq_true, QcM, QuS, QuR, QuQ, QuP, divN]
 ·have h2 := QDM hb h0
  simp -implicitDefEqProofs (disch := omega) only [go_sem, ↓reduceIte, reduceCtorEq, rq, zA, lR, QcM, QuS, QuR, QuQ, QuP, divN, h0, h2, false_implies, true_implies, true_and, and_true]
theorem w_remU (hT : Qj P tab) : Two P G Qgt QrX := by
 intro a b ha hb t
 refine Ql 0 (zL _) (Qx hT Qkc (by simp [QcC]) (Qs 1000 ?_))
 by_cases h0 : b = 0
 ·subst h0
  simp -implicitDefEqProofs (disch := omega) only [go_sem, ↓reduceIte, reduceCtorEq, rq, zA, lR, beq_self_eq_true, QcC, QuO, QuN, QuM, QuL, QrX]
 ·have h2 := QDM hb h0
  simp -implicitDefEqProofs (disch := omega) only [go_sem, ↓reduceIte, reduceCtorEq, rq, zA, lR, QcC, QuO, QuN, QuM, QuL, QrX, h0, h2, false_implies, true_implies, true_and, and_true]
theorem w_S1 (hT : Qj P tab) : Two P G Qe3 fun a b => IntKind.i64.wrap (a + b) := by
 intro a b ha hb t
 refine Ql 0 (zL _) (Qx hT QiZ (by simp [QcL]) (Qs 1000 ?_))
 simp -implicitDefEqProofs (disch := omega) only [go_sem, ↓reduceIte, reduceCtorEq, rq, zA, lR, QcL, QBI, QBH]
theorem w_S2 (hT : Qj P tab) : Two P G Qe2 fun a b => IntKind.i64.wrap (a - b) := by
 intro a b ha hb t
 refine Ql 0 (zL _) (Qx hT QiY (by simp [QcK]) (Qs 1000 ?_))
 simp -implicitDefEqProofs (disch := omega) only [go_sem, ↓reduceIte, reduceCtorEq, rq, zA, lR, QcK, QBG, QBF]
theorem w_S3 (hT : Qj P tab) : Two P G Qe1 fun a b => IntKind.i64.wrap (a * b) := by
 intro a b ha hb t
 refine Ql 0 (zL _) (Qx hT QiX (by simp [QcJ]) (Qs 1000 ?_))
 simp -implicitDefEqProofs (disch := omega) only [go_sem, ↓reduceIte, reduceCtorEq, rq, zA, lR, QcJ, QBE, QBD]
theorem w_S4 (hT : Qj P tab) : Two P G Qe0 fun a b => QaO .i64 a b := by
 intro a b ha hb t
 refine Ql 0 (zL _) (Qx hT QiW (by simp [QcI]) (Qs 1000 ?_))
 simp -implicitDefEqProofs (disch := omega) only [go_sem, ↓reduceIte, reduceCtorEq, rq, zA, lR, QcI, QBC, QBB]
theorem w_S5 (hT : Qj P tab) : Two P G QeZ fun a b => orI .i64 a b := by
 intro a b ha hb t
 refine Ql 0 (zL _) (Qx hT QiV (by simp [QcH]) (Qs 1000 ?_))
 simp -implicitDefEqProofs (disch := omega) only [go_sem, ↓reduceIte, reduceCtorEq, rq, zA, lR, QcH, QBA, QBz]
theorem w_S6 (hT : Qj P tab) : Two P G QeY fun a b => QsJ .i64 a b := by
 intro a b ha hb t
 refine Ql 0 (zL _) (Qx hT QiU (by simp [QcG]) (Qs 1000 ?_))
 simp -implicitDefEqProofs (disch := omega) only [go_sem, ↓reduceIte, reduceCtorEq, rq, zA, lR, QcG, QBy, QBx]
theorem w_S7 (hT : Qj P tab) : Two P G QeX fun a b => IntKind.i64.wrap (a * 2 ^ min (QaO .i64 b 63).toNat 64) := by
 intro a b ha hb t
 refine Ql 0 (zL _) (Qx hT QiT (by simp [QcF]) (Qs 1000 ?_))
 simp -implicitDefEqProofs (disch := omega) only [go_sem, ↓reduceIte, reduceCtorEq, rq, zA, lR, QcF, QBw, QBv, QHf]
theorem w_S8 (hT : Qj P tab) : Two P G QeW fun a b => IntKind.i64.wrap ((IntKind.u64.wrap a).fdiv (2 ^ min (QaO .i64 b 63).toNat 64)) := by
 intro a b ha hb t
 refine Ql 0 (zL _) (Qx hT QiS (by simp [QcE]) (Qs 1000 ?_))
 simp -implicitDefEqProofs (disch := omega) only [go_sem, ↓reduceIte, reduceCtorEq, rq, zA, lR, QcE, QBu, QBt, QHf]
theorem w_S9 (hT : Qj P tab) : Two P G QeV fun a b => a.fdiv (2 ^ min (QaO .i64 b 63).toNat 64) := by
 intro a b ha hb t
 refine Ql 0 (zL _) (Qx hT QiR (by simp [QcD]) (Qs 1000 ?_))
 simp -implicitDefEqProofs (disch := omega) only [go_sem, ↓reduceIte, reduceCtorEq, rq, zA, lR, QcD, QBs, QBr, QHf]
theorem w_S10 (hT : Qj P tab) : Two P G Qdt fun a b => if a < b then 1 else 0 := by
 intro a b ha hb t
 refine Ql 0 (zL _) (Qx hT Qhg (by simp [Qby]) (Qs 1000 ?_))
 simp -implicitDefEqProofs (disch := omega) only [go_sem, ↓reduceIte, reduceCtorEq, rq, zA, Qby, QBq, QBp]
 refine Qd hT Qfu (QFJ hT _) rfl 1000 ?_
 exact ya1
theorem w_S11 (hT : Qj P tab) : Two P G Qds fun a b => if IntKind.u64.wrap a < IntKind.u64.wrap b then 1 else 0 := by
 intro a b ha hb t
 refine Ql 0 (zL _) (Qx hT Qhf (by simp [Qbx]) (Qs 1000 ?_))
 simp -implicitDefEqProofs (disch := omega) only [go_sem, ↓reduceIte, reduceCtorEq, rq, zA, Qbx, QBo, QBn]
 refine Qd hT Qfu (QFJ hT _) rfl 1000 ?_
 exact ya1
theorem w_S12 (hT : Qj P tab) : Two P G Qdr fun a b => if a = b then 1 else 0 := by
 intro a b ha hb t
 refine Ql 0 (zL _) (Qx hT Qhe (by simp [Qbw]) (Qs 1000 ?_))
 simp -implicitDefEqProofs (disch := omega) only [go_sem, ↓reduceIte, reduceCtorEq, rq, zA, Qbw, QBm, QBl]
 refine Qd hT Qfu (QFJ hT _) rfl 1000 ?_
 exact yb
theorem Qlz : Value.nilFunc.oneCell' = true := rfl
def fact (f : V) (b c : Bool) (n : Int) (d : Bool) : V := .agg [f, .bool b, .bool c, .int .i64 n, .bool d]
theorem of_0 (hT : Qj P tab) : Pure P G Q3 [.int .u8 0] fun v => v = fact (.val .nilFunc) false false 0 false := by
 intro t
 refine Ql 0 (zL _) (Qx hT QV (by simp [QY]) (Qs 1000 ?_))
 simp -implicitDefEqProofs (disch := omega) only [go_sem, ↓reduceIte, reduceCtorEq, rA, rq, rL, rT, Int.reduceToNat, Int.reduceLE, zA, aZ, Nat.zero_mul, decide_false, nF, lR, zL, ge_iff_le, QY, ZW, ZV, ZU, ZT, ZS, lN, lC, nA, cA, Qlz, show IntKind.i64.wrap 0 = 0 from rfl, false_implies, and_true, fact]
theorem of_1 (hT : Qj P tab) : Pure P G Q3 [.int .u8 1] fun v => v = fact (.fn (.func Qe3) [] []) true true (0) true := by
 intro t
 refine Ql 0 (zL _) (Qx hT QV (by simp [QY]) (Qs 1000 ?_))
 simp -implicitDefEqProofs (disch := omega) only [go_sem, ↓reduceIte, reduceCtorEq, rA, rq, rL, rT, Int.reduceToNat, Int.reduceLE, zA, Nat.one_mul, decide_false, nF, lR, zL, ge_iff_le, QY, ZW, ZV, ZU, ZT, ZS, lN, lC, nA, cA, Qlz, show IntKind.i64.wrap 1 = 1 from rfl, false_implies, and_true, fact]
theorem of_2 (hT : Qj P tab) : Pure P G Q3 [.int .u8 2] fun v => v = fact (.fn (.func Qe2) [] []) false false (0) true := by
 intro t
 refine Ql 0 (zL _) (Qx hT QV (by simp [QY]) (Qs 1000 ?_))
 simp -implicitDefEqProofs (disch := omega) only [go_sem, ↓reduceIte, reduceCtorEq, rA, rq, rL, rT, Nat.reduceMul, Int.reduceToNat, Int.reduceLE, zA, decide_false, nF, lR, zL, ge_iff_le, QY, ZW, ZV, ZU, ZT, ZS, lN, lC, nA, cA, Qlz, show IntKind.i64.wrap 2 = 2 from rfl, false_implies, and_true, fact]
theorem of_3 (hT : Qj P tab) : Pure P G Q3 [.int .u8 3] fun v => v = fact (.fn (.func Qe1) [] []) true true (1) true := by
 intro t
 refine Ql 0 (zL _) (Qx hT QV (by simp [QY]) (Qs 1000 ?_))
 simp -implicitDefEqProofs (disch := omega) only [go_sem, ↓reduceIte, reduceCtorEq, rA, rq, rL, rT, Nat.reduceMul, Int.reduceToNat, Int.reduceLE, zA, decide_false, nF, lR, zL, ge_iff_le, QY, ZW, ZV, ZU, ZT, ZS, lN, lC, nA, cA, Qlz, show IntKind.i64.wrap 3 = 3 from rfl, false_implies, and_true, fact]
theorem of_4 (hT : Qj P tab) : Pure P G Q3 [.int .u8 4] fun v => v = fact (.fn (.func Qh9) [] []) false false (1) true := by
 intro t
 refine Ql 0 (zL _) (Qx hT QV (by simp [QY]) (Qs 1000 ?_))
 simp -implicitDefEqProofs (disch := omega) only [go_sem, ↓reduceIte, reduceCtorEq, rA, rq, rL, rT, Nat.reduceMul, Int.reduceToNat, Int.reduceLE, zA, decide_false, nF, lR, zL, ge_iff_le, QY, ZW, ZV, ZU, ZT, ZS, lN, lC, nA, cA, Qlz, show IntKind.i64.wrap 4 = 4 from rfl, false_implies, and_true, fact]
theorem of_5 (hT : Qj P tab) : Pure P G Q3 [.int .u8 5] fun v => v = fact (.fn (.func Qh8) [] []) false false (0) true := by
 intro t
 refine Ql 0 (zL _) (Qx hT QV (by simp [QY]) (Qs 1000 ?_))
 simp -implicitDefEqProofs (disch := omega) only [go_sem, ↓reduceIte, reduceCtorEq, rA, rq, rL, rT, Nat.reduceMul, Int.reduceToNat, Int.reduceLE, zA, decide_false, nF, lR, zL, ge_iff_le, QY, ZW, ZV, ZU, ZT, ZS, lN, lC, nA, cA, Qlz, show IntKind.i64.wrap 5 = 5 from rfl, false_implies, and_true, fact]
theorem of_6 (hT : Qj P tab) : Pure P G Q3 [.int .u8 6] fun v => v = fact (.fn (.func Qgu) [] []) false false (1) true := by
 intro t
 refine Ql 0 (zL _) (Qx hT QV (by simp [QY]) (Qs 1000 ?_))
 simp -implicitDefEqProofs (disch := omega) only [go_sem, ↓reduceIte, reduceCtorEq, rA, rq, rL, rT, Nat.reduceMul, Int.reduceToNat, Int.reduceLE, zA, decide_false, nF, lR, zL, ge_iff_le, QY, ZW, ZV, ZU, ZT, ZS, lN, lC, nA, cA, Qlz, show IntKind.i64.wrap 6 = 6 from rfl, false_implies, and_true, fact]
theorem of_7 (hT : Qj P tab) : Pure P G Q3 [.int .u8 7] fun v => v = fact (.fn (.func Qgt) [] []) false false (0) true := by
 intro t
 refine Ql 0 (zL _) (Qx hT QV (by simp [QY]) (Qs 1000 ?_))
 simp -implicitDefEqProofs (disch := omega) only [go_sem, ↓reduceIte, reduceCtorEq, rA, rq, rL, rT, Nat.reduceMul, Int.reduceToNat, Int.reduceLE, zA, decide_false, nF, lR, zL, ge_iff_le, QY, ZW, ZV, ZU, ZT, ZS, lN, lC, nA, cA, Qlz, show IntKind.i64.wrap 7 = 7 from rfl, false_implies, and_true, fact]
theorem of_8 (hT : Qj P tab) : Pure P G Q3 [.int .u8 8] fun v => v = fact (.fn (.func Qe0) [] []) true true (-1) true := by
 intro t
 refine Ql 0 (zL _) (Qx hT QV (by simp [QY]) (Qs 1000 ?_))
 simp -implicitDefEqProofs (disch := omega) only [go_sem, ↓reduceIte, reduceCtorEq, rA, rq, rL, rT, Nat.reduceMul, Int.reduceToNat, Int.reduceLE, zA, decide_false, nF, lR, zL, ge_iff_le, QY, ZW, ZV, ZU, ZT, ZS, lN, lC, nA, cA, Qlz, show IntKind.i64.wrap 8 = 8 from rfl, false_implies, and_true, fact]
theorem of_9 (hT : Qj P tab) : Pure P G Q3 [.int .u8 9] fun v => v = fact (.fn (.func QeZ) [] []) true true (0) true := by
 intro t
 refine Ql 0 (zL _) (Qx hT QV (by simp [QY]) (Qs 1000 ?_))
 simp -implicitDefEqProofs (disch := omega) only [go_sem, ↓reduceIte, reduceCtorEq, rA, rq, rL, rT, Nat.reduceMul, Int.reduceToNat, Int.reduceLE, zA, decide_false, nF, lR, zL, ge_iff_le, QY, ZW, ZV, ZU, ZT, ZS, lN, lC, nA, cA, Qlz, show IntKind.i64.wrap 9 = 9 from rfl, false_implies, and_true, fact]
theorem QGc (hT : Qj P tab) : Pure P G Q3 [.int .u8 10] fun v => v = fact (.fn (.func QeY) [] []) true true (0) true := by
 intro t
 refine Ql 0 (zL _) (Qx hT QV (by simp [QY]) (Qs 1000 ?_))
 simp -implicitDefEqProofs (disch := omega) only [go_sem, ↓reduceIte, reduceCtorEq, rA, rq, rL, rT, Nat.reduceMul, Int.reduceToNat, Int.reduceLE, zA, decide_false, nF, lR, zL, ge_iff_le, QY, ZW, ZV, ZU, ZT, ZS, lN, lC, nA, cA, Qlz, show IntKind.i64.wrap 10 = 10 from rfl, false_implies, and_true, fact]
theorem QGb (hT : Qj P tab) : Pure P G Q3 [.int .u8 11] fun v => v = fact (.fn (.func QeX) [] []) false false (0) true := by
 intro t
 refine Ql 0 (zL _) (Qx hT QV (by simp [QY]) (Qs 1000 ?_))
 simp -implicitDefEqProofs (disch := omega) only [go_sem, ↓reduceIte, reduceCtorEq, rA, rq, rL, rT, Nat.reduceMul, Int.reduceToNat, Int.reduceLE, zA, decide_false, nF, lR, zL, ge_iff_le, QY, ZW, ZV, ZU, ZT, ZS, lN, lC, nA, cA, Qlz, show IntKind.i64.wrap 11 = 11 from rfl, false_implies, and_true, fact]
theorem QGa (hT : Qj P tab) : Pure P G Q3 [.int .u8 12] fun v => v = fact (.fn (.func QeW) [] []) false false (0) true := by
 intro t
 refine Ql 0 (zL _) (Qx hT QV (by simp [QY]) (Qs 1000 ?_))
 simp -implicitDefEqProofs (disch := omega) only [go_sem, ↓reduceIte, reduceCtorEq, rA, rq, rL, rT, Nat.reduceMul, Int.reduceToNat, Int.reduceLE, zA, decide_false, nF, lR, zL, ge_iff_le, QY, ZW, ZV, ZU, ZT, ZS, lN, lC, nA, cA, Qlz, show IntKind.i64.wrap 12 = 12 from rfl, false_implies, and_true, fact]
theorem QF9 (hT : Qj P tab) : Pure P G Q3 [.int .u8 13] fun v => v = fact (.fn (.func QeV) [] []) false false (0) true := by
 intro t
 refine Ql 0 (zL _) (Qx hT QV (by simp [QY]) (Qs 1000 ?_))
 simp -implicitDefEqProofs (disch := omega) only [go_sem, ↓reduceIte, reduceCtorEq, rA, rq, rL, rT, Nat.reduceMul, Int.reduceToNat, Int.reduceLE, zA, decide_false, nF, lR, zL, ge_iff_le, QY, ZW, ZV, ZU, ZT, ZS, lN, lC, nA, cA, Qlz, show IntKind.i64.wrap 13 = 13 from rfl, false_implies, and_true, fact]
theorem QF8 (hT : Qj P tab) : Pure P G Q3 [.int .u8 14] fun v => v = fact (.fn (.func Qdt) [] []) false false (0) false := by
 intro t
 refine Ql 0 (zL _) (Qx hT QV (by simp [QY]) (Qs 1000 ?_))
 simp -implicitDefEqProofs (disch := omega) only [go_sem, ↓reduceIte, reduceCtorEq, rA, rq, rL, rT, Nat.reduceMul, Int.reduceToNat, Int.reduceLE, zA, decide_false, nF, lR, zL, ge_iff_le, QY, ZW, ZV, ZU, ZT, ZS, lN, lC, nA, cA, Qlz, show IntKind.i64.wrap 14 = 14 from rfl, false_implies, and_true, fact]
theorem QF7 (hT : Qj P tab) : Pure P G Q3 [.int .u8 15] fun v => v = fact (.fn (.func Qds) [] []) false false (0) false := by
 intro t
 refine Ql 0 (zL _) (Qx hT QV (by simp [QY]) (Qs 1000 ?_))
 simp -implicitDefEqProofs (disch := omega) only [go_sem, ↓reduceIte, reduceCtorEq, rA, rq, rL, rT, Nat.reduceMul, Int.reduceToNat, Int.reduceLE, zA, decide_false, nF, lR, zL, ge_iff_le, QY, ZW, ZV, ZU, ZT, ZS, lN, lC, nA, cA, Qlz, show IntKind.i64.wrap 15 = 15 from rfl, false_implies, and_true, fact]
theorem QF6 (hT : Qj P tab) : Pure P G Q3 [.int .u8 16] fun v => v = fact (.fn (.func Qdr) [] []) true false (0) false := by
 intro t
 refine Ql 0 (zL _) (Qx hT QV (by simp [QY]) (Qs 1000 ?_))
 simp -implicitDefEqProofs (disch := omega) only [go_sem, ↓reduceIte, reduceCtorEq, rA, rq, rL, rT, Nat.reduceMul, Int.reduceToNat, Int.reduceLE, zA, decide_false, nF, lR, zL, ge_iff_le, QY, ZW, ZV, ZU, ZT, ZS, lN, lC, nA, cA, Qlz, show IntKind.i64.wrap 16 = 16 from rfl, false_implies, and_true, fact]
theorem Qv7 (hT : Qj P tab) {op : Int} (h : 17 ≤ op) (h2 : op ≤ 255) : Pure P G Q3 [.int .u8 op] fun v => v = fact (.val .nilFunc) false false 0 false := by
 intro t
 refine Ql 0 (zL _) (Qx hT QV (by simp [QY]) (Qs 1000 ?_))
 have hw : IntKind.i64.wrap op = op := wrap_i64 (by omega) (by omega)
 simp -implicitDefEqProofs (disch := omega) only [go_sem, ↓reduceIte, reduceCtorEq, rA, rq, rL, zA, decide_true, nF, lR, zL, ge_iff_le, QY, ZW, ZV, ZU, ZT, ZS, lN, lC, nA, cA, Qlz, hw, h, false_implies, and_true, fact]
def doW (op a b : Int) : Int :=
 if op = 1 then IntKind.i64.wrap (a + b) else
 if op = 2 then IntKind.i64.wrap (a - b) else
 if op = 3 then IntKind.i64.wrap (a * b) else
 if op = 4 then Qw4 a b else
 if op = 5 then QpP a b else
 if op = 6 then divN a b else
 if op = 7 then QrX a b else
 if op = 8 then QaO .i64 a b else
 if op = 9 then orI .i64 a b else
 if op = 10 then QsJ .i64 a b else
 if op = 11 then IntKind.i64.wrap (a * 2 ^ min (QaO .i64 b 63).toNat 64) else
 if op = 12 then IntKind.i64.wrap ((IntKind.u64.wrap a).fdiv (2 ^ min (QaO .i64 b 63).toNat 64)) else
 if op = 13 then a.fdiv (2 ^ min (QaO .i64 b 63).toNat 64) else
 if op = 14 then (if a < b then 1 else 0) else
 if op = 15 then (if IntKind.u64.wrap a < IntKind.u64.wrap b then 1 else 0) else
 if op = 16 then (if a = b then 1 else 0) else
 0
theorem QEj (hT : Qj P tab) {op a b : Int} (h : Pure P G Q3 [.int .u8 op] fun v => v = fact (.val .nilFunc) false false 0 false) : Pure P G Qhu [.int .u8 op, .int .i64 a, .int .i64 b] fun v => v = .int .i64 0 := by
 intro t
 refine Ql 0 (zL _) (Qx hT QbC (by simp [Qgj]) (Qs 1000 ?_))
 simp -implicitDefEqProofs (disch := omega) only [go_sem, ↓reduceIte, reduceCtorEq, rA, rq, zA, Qgj, QEX, QEW, QEV, QEU, QET]
 refine Qd hT QV h rfl 1000 ?_
 simp -implicitDefEqProofs (disch := omega) only [go_sem, ↓reduceIte, reduceCtorEq, rA, rq, rL, zA, aZ, nF, lR, zL, fact, lN, lC, nA, cA, Qlz, true_implies, and_true]
theorem QfR (hT : Qj P tab) {op a b n : Int} {f : Nat} {A : AF} {c1 c2 c3 : Bool} {d : Int → Int → Int} (hf : tab f = some A) (h : Pure P G Q3 [.int .u8 op] fun v => v = fact (.fn (.func f) [] []) c1 c2 n c3) (hd : Pure P G f [.int .i64 a, .int .i64 b] fun v => v = .int .i64 (d a b)) : Pure P G Qhu [.int .u8 op, .int .i64 a, .int .i64 b] fun v => v = .int .i64 (d a b) := by
 intro t
 refine Ql 0 (zL _) (Qx hT QbC (by simp [Qgj]) (Qs 1000 ?_))
 simp -implicitDefEqProofs (disch := omega) only [go_sem, ↓reduceIte, reduceCtorEq, rA, rq, zA, Qgj, QEX, QEW, QEV, QEU, QET]
 refine Qd hT QV h rfl 1000 ?_
 simp -implicitDefEqProofs (disch := omega) only [go_sem, ↓reduceIte, reduceCtorEq, rA, rq, rL, zA, aZ, nF, lR, fact, lN, lC, nA, cA, Qlz, true_implies, and_true]
 refine Qd hT hf hd rfl 1000 ?_
 exact yb
theorem c_Do (hT : Qj P tab) {op a b : Int} (h0 : 0 ≤ op) (h1 : op ≤ 255) (ha : i64 a) (hb : i64 b) : Pure P G Qhu [.int .u8 op, .int .i64 a, .int .i64 b] fun v => v = .int .i64 (doW op a b) := by
 by_cases hm : 17 ≤ op
 ·have e : doW op a b = 0 := by unfold doW; repeat rw [if_neg (by omega)]
  rw [e]
  exact QEj hT (Qv7 hT hm h1)
 ·have : op = 0 ∨ op = 1 ∨ op = 2 ∨ op = 3 ∨ op = 4 ∨ op = 5 ∨ op = 6 ∨ op = 7 ∨ op = 8 ∨ op = 9 ∨ op = 10 ∨ op = 11 ∨ op = 12 ∨ op = 13 ∨ op = 14 ∨ op = 15 ∨ op = 16 := by omega
  rcases this with rfl | rfl | rfl | rfl | rfl | rfl | rfl | rfl | rfl | rfl | rfl | rfl | rfl | rfl | rfl | rfl | rfl
  ·exact QEj hT (of_0 hT)
  ·exact QfR hT QiZ (of_1 hT) (w_S1 hT a b ha hb)
  ·exact QfR hT QiY (of_2 hT) (w_S2 hT a b ha hb)
  ·exact QfR hT QiX (of_3 hT) (w_S3 hT a b ha hb)
  ·exact QfR hT Qlu (of_4 hT) (w_div hT a b ha hb)
  ·exact QfR hT Qlt (of_5 hT) (w_rem hT a b ha hb)
  ·exact QfR hT Qkd (of_6 hT) (w_divU hT a b ha hb)
  ·exact QfR hT Qkc (of_7 hT) (w_remU hT a b ha hb)
  ·exact QfR hT QiW (of_8 hT) (w_S4 hT a b ha hb)
  ·exact QfR hT QiV (of_9 hT) (w_S5 hT a b ha hb)
  ·exact QfR hT QiU (QGc hT) (w_S6 hT a b ha hb)
  ·exact QfR hT QiT (QGb hT) (w_S7 hT a b ha hb)
  ·exact QfR hT QiS (QGa hT) (w_S8 hT a b ha hb)
  ·exact QfR hT QiR (QF9 hT) (w_S9 hT a b ha hb)
  ·exact QfR hT Qhg (QF8 hT) (w_S10 hT a b ha hb)
  ·exact QfR hT Qhf (QF7 hT) (w_S11 hT a b ha hb)
  ·exact QfR hT Qhe (QF6 hT) (w_S12 hT a b ha hb)
end Go.Proofs.YtpdeoalocejodaaGreatDoor
