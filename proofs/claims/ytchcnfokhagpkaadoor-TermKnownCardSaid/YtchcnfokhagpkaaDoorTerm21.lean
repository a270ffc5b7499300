/- The law TermTells. -/
import Derived.Test.YtchcnfokhagpkaaDoorTerm20
namespace Go.Proofs.YtchcnfokhagpkaaDoor
open Go Go.Am
set_option maxRecDepth 100000
set_option maxHeartbeats 1000000
variable {P : Program} {G : Nat → Option V}

/-- The document's graph behind the program's. -/
def mK (w0 w1 : Nat) (L : List Nd) (ex : List (Option Ob)) : List (Option Ob) := some (.arr w0 29 [.sl 6 w1 0 6 L.length none]) :: some (.arr w1 37 (ndC L)) :: ex

theorem ren_nl {r : Nat → Nat} {v : V} (h : nameless v = true) : V.ren r v = v := V.ren_under (k := 0) (by omega) v (under_nameless 0 h)
theorem renL_nl {r : Nat → Nat} {l : List V} (h : namelessL l = true) : renL r l = l := renL_under (k := 0) (by omega) l (underL_nameless l h)

theorem m_readK {fmt : Int → List UInt8} {f : Nat} {args : List V} {r : V} {v0 v1 v2 v3 v4 w0 w1 t base : Nat} {L : List Nd} {ex : List (Option Ob)} (h : C P G 2 f (.ptr 0 w0 0 :: args) ⟨t, mH w0 w1 L⟩ fun v σ => v = r ∧ ∃ t', t ≤ t' ∧ σ = ⟨t', mH w0 w1 L⟩) (ha : namelessL args = true) (hr : nameless r = true) :
    C P G base f (.ptr 5 w0 0 :: args) ⟨t, kG fmt v0 v1 v2 v3 v4 L ++ mK w0 w1 L ex⟩ fun v σ => v = r ∧ ∃ t', t ≤ t' ∧ σ = ⟨t', kG fmt v0 v1 v2 v3 v4 L ++ mK w0 w1 L ex⟩ := by
  have hlen : (kG fmt v0 v1 v2 v3 v4 L ++ mK w0 w1 L ex).length = 7 + ex.length := by rw [kG_len]; simp [mK]; omega
  refine C_readS (oS := mH w0 w1 L) [5, 6] h rfl (by decide) ⟨by omega, by omega, trivial⟩ (fun j x hx => ?_) (by simp [underL, V.under, mH, underL_nameless _ ha]) ?_ (ren_nl hr).symm
  · match j, hx with
    | 0, hx =>
      cases hx
      refine ⟨_, rfl, by simp [Ob.under, underL, V.under, mH], ?_⟩
      have h0 : rOf [5, 6] (kG fmt v0 v1 v2 v3 v4 L ++ mK w0 w1 L ex).length 0 = 5 := rfl
      have h1 : rOf [5, 6] (kG fmt v0 v1 v2 v3 v4 L ++ mK w0 w1 L ex).length 1 = 6 := rfl
      rw [h0]
      simp only [Ob.ren, renL, V.ren, h1]
      rfl
    | 1, hx =>
      cases hx
      refine ⟨_, rfl, by simp [Ob.under, underL_nameless _ (ndC_nameless L)], ?_⟩
      have h1 : rOf [5, 6] (kG fmt v0 v1 v2 v3 v4 L ++ mK w0 w1 L ex).length 1 = 6 := rfl
      rw [h1]
      simp only [Ob.ren, renL_nl (ndC_nameless L)]
      rfl
    | j + 2, hx => simp [mH] at hx
  · have h0 : rOf [5, 6] (kG fmt v0 v1 v2 v3 v4 L ++ mK w0 w1 L ex).length 0 = 5 := rfl
    simp only [renL, V.ren, h0, renL_nl ha]

theorem r_UsesK (hT : TabOk P tab) {fmt : Int → List UInt8} {v0 v1 v2 v3 v4 w0 w1 wr t base : Nat} {L : List Nd} {roots : List Int} {ex : List (Option Ob)} (hL : L.length ≤ 1000) (hok : okN L) (hrl : roots.length ≤ 1000) :
   C P G base n_proofmarkref02_Graph_Uses [.ptr 5 w0 0, .sl 7 wr 0 1 roots.length none] ⟨t, kG fmt v0 v1 v2 v3 v4 L ++ mK w0 w1 L (some (.arr wr 3 (roots.map (V.int .i64))) :: ex)⟩ fun v σ => v = .lst 1 ((usesL L roots).map (V.int .i64)) false ∧ ∃ t', t ≤ t' ∧ σ = ⟨t', kG fmt v0 v1 v2 v3 v4 L ++ mK w0 w1 L (some (.arr wr 3 (roots.map (V.int .i64))) :: ex)⟩ := by
  have hlen : (kG fmt v0 v1 v2 v3 v4 L ++ mK w0 w1 L (some (.arr wr 3 (roots.map (V.int .i64))) :: ex)).length = 8 + ex.length := by rw [kG_len]; simp [mK]; omega
  refine C_readS (oS := mH w0 w1 L ++ [some (.arr wr 3 (roots.map (V.int .i64)))]) (argsS := [.ptr 0 w0 0, .sl 2 wr 0 1 roots.length none]) (r := .lst 1 ((usesL L roots).map (V.int .i64)) false) [5, 6, 7] (r_Uses hT hL hok hrl) rfl (by decide) ⟨by omega, by omega, by omega, trivial⟩ (fun j x hx => ?_) (by simp [underL, V.under, mH]) ?_ (ren_nl rfl).symm
  · match j, hx with
    | 0, hx =>
      cases hx
      refine ⟨_, rfl, by simp [Ob.under, underL, V.under, mH], ?_⟩
      have h0 : rOf [5, 6, 7] (kG fmt v0 v1 v2 v3 v4 L ++ mK w0 w1 L (some (.arr wr 3 (roots.map (V.int .i64))) :: ex)).length 0 = 5 := rfl
      have h1 : rOf [5, 6, 7] (kG fmt v0 v1 v2 v3 v4 L ++ mK w0 w1 L (some (.arr wr 3 (roots.map (V.int .i64))) :: ex)).length 1 = 6 := rfl
      rw [h0]
      simp only [Ob.ren, renL, V.ren, h1]
      rfl
    | 1, hx =>
      cases hx
      refine ⟨_, rfl, by simp [Ob.under, underL_nameless _ (ndC_nameless L)], ?_⟩
      have h1 : rOf [5, 6, 7] (kG fmt v0 v1 v2 v3 v4 L ++ mK w0 w1 L (some (.arr wr 3 (roots.map (V.int .i64))) :: ex)).length 1 = 6 := rfl
      rw [h1]
      simp only [Ob.ren, renL_nl (ndC_nameless L)]
      rfl
    | 2, hx =>
      cases hx
      refine ⟨_, rfl, by simp [Ob.under, underL_nameless _ (ints_nameless roots)], ?_⟩
      have h1 : rOf [5, 6, 7] (kG fmt v0 v1 v2 v3 v4 L ++ mK w0 w1 L (some (.arr wr 3 (roots.map (V.int .i64))) :: ex)).length 2 = 7 := rfl
      rw [h1]
      simp only [Ob.ren, renL_nl (ints_nameless roots)]
      rfl
    | j + 3, hx => simp [mH] at hx
  · have h0 : rOf [5, 6, 7] (kG fmt v0 v1 v2 v3 v4 L ++ mK w0 w1 L (some (.arr wr 3 (roots.map (V.int .i64))) :: ex)).length 0 = 5 := rfl
    have h2 : rOf [5, 6, 7] (kG fmt v0 v1 v2 v3 v4 L ++ mK w0 w1 L (some (.arr wr 3 (roots.map (V.int .i64))) :: ex)).length 2 = 7 := rfl
    simp only [renL, V.ren, h0, h2]

theorem callPlain (hT : TabOk P tab) {n : Nat} {Q : AE → Fr → H → Prop} {t : AT} {dd : Option Nat} {dead : List Nat} {s : List KI} {fr : Fr} {fmt : Int → List UInt8} {v0 v1 v2 v3 v4 c : Nat} {L : List Nd} (hL : L.length ≤ 1000) (fuel : Nat)
    (k : ∀ w0 w1 c', c ≤ c' → run P G n 0 Q fuel (.at t dead :: s) .nrm (fput fr dd (.ptr 5 w0 0)) ⟨c', kG fmt v0 v1 v2 v3 v4 L ++ mK w0 w1 L []⟩) :
    CV P G 0 (.fn (.func n_proofmarkkit_Plain) [] []) [.ptr 1 v0 0] ⟨c, kG fmt v0 v1 v2 v3 v4 L ++ []⟩ (kC P G n 0 Q dd t dead s fr) := by
  rw [List.append_nil]
  exact call hT t_proofmarkkit_Plain (c_PlainG hT hL) fuel fun v σ hv => by
    obtain ⟨w0, w1, c', h1, h2, h3⟩ := hv
    rw [h2, h3]
    exact k w0 w1 c' h1

theorem mK_len {w0 w1 : Nat} {L : List Nd} {ex : List (Option Ob)} : (mK w0 w1 L ex).length = 2 + ex.length := by simp [mK]; omega
theorem mK_app {w0 w1 : Nat} {L : List Nd} {ex y : List (Option Ob)} : mK w0 w1 L ex ++ y = mK w0 w1 L (ex ++ y) := rfl
theorem mK_7 {fmt : Int → List UInt8} {v0 v1 v2 v3 v4 w0 w1 : Nat} {L : List Nd} {x : Option Ob} {ex : List (Option Ob)} : (kG fmt v0 v1 v2 v3 v4 L ++ mK w0 w1 L (x :: ex))[7]? = some x := rfl
theorem mKs_7 {fmt : Int → List UInt8} {v0 v1 v2 v3 v4 w0 w1 : Nat} {L : List Nd} {x y : Option Ob} {ex : List (Option Ob)} : (kG fmt v0 v1 v2 v3 v4 L ++ mK w0 w1 L (x :: ex)).set 7 y = kG fmt v0 v1 v2 v3 v4 L ++ mK w0 w1 L (y :: ex) := rfl

theorem tt0 (hT : TabOk P tab) (F : Fmt P G) (SO : SortOk P) (hW : Pure P G n_proofmarklaw02_works [] fun v => v = .bool true) {v0 v1 v2 v3 v4 w0 w1 t : Nat} {L : List Nd} {vr : V} (hL : L.length ≤ 1000) (hok : okN L) {Q : AE → Fr → H → Prop} {fr : Fr}
    (f1 : fget fr 1 = vr) (f5 : fget fr 5 = .ptr 1 v0 0) (f7 : fget fr 7 = .ptr 5 w0 0) (f8 : fget fr 8 = .int .i64 (-1))
    (hQr : ∀ fr' σ', fget fr' 4 = .bool true → Q .ret fr' σ')
    (hQ : ∀ fr' t', fget fr' 1 = vr → fget fr' 5 = .ptr 1 v0 0 → fget fr' 7 = .ptr 5 w0 0 → Q (.ex 0) fr' ⟨t', kG F.fmt v0 v1 v2 v3 v4 L ++ mK w0 w1 L []⟩) :
    W P G 97 0 (.loop (AC.seq (AC.seq (AC.reg proofmarklaw02_TermTells_r6 [31, 32, 33])   (AC.cond (Arg.t 34)   AC.skip   (AC.exit 0)))   (AC.seq (AC.block 1 (AC.seq (AC.reg proofmarklaw02_TermTells_r7 [37, 38, 39])   (AC.seq (AC.seq (AC.reg proofmarklaw02_TermTells_r8 [40])   (AC.cond (Arg.t 41)   (AC.seq (AC.reg proofmarklaw02_TermTells_r9 [42])   AC.ret)   AC.skip))   (AC.seq (AC.reg proofmarklaw02_TermTells_r10 [43, 44, 45, 46, 47, 48, 49, 50, 51, 52, 53, 54, 55])   (AC.cond (Arg.t 56)   (AC.seq (AC.reg proofmarklaw02_TermTells_r11 [])   AC.ret)   AC.skip)))))   (AC.reg proofmarklaw02_TermTells_r12 [35, 36])))) fr ⟨t, kG F.fmt v0 v1 v2 v3 v4 L ++ mK w0 w1 L []⟩ Q := by
  refine sem_invE (s := []) (fun m fr σ' => ∃ (id : Int) (t' : Nat), -1 ≤ id ∧ id ≤ L.length + 1 ∧ (m : Int) = L.length + 1 - id ∧ fget fr 1 = vr ∧ fget fr 5 = .ptr 1 v0 0 ∧ fget fr 7 = .ptr 5 w0 0 ∧ fget fr 8 = .int .i64 id ∧ σ' = ⟨t', kG F.fmt v0 v1 v2 v3 v4 L ++ mK w0 w1 L []⟩)
    (fun e fr σ' => (e = .ret ∧ fget fr 4 = .bool true) ∨ (e = .ex 0 ∧ fget fr 1 = vr ∧ fget fr 5 = .ptr 1 v0 0 ∧ fget fr 7 = .ptr 5 w0 0 ∧ ∃ t', σ' = ⟨t', kG F.fmt v0 v1 v2 v3 v4 L ++ mK w0 w1 L []⟩))
    (m0 := L.length + 2) ⟨-1, t, by omega, by omega, by omega, f1, f5, f7, f8, rfl⟩ (fun m fr σ' hJ => ?_) (fun e fr σ' hE => ?_)
  · clear f1 f5 f7 f8
    obtain ⟨id, t', hi0, hi1, hm, f1, f5, f7, f8, rfl⟩ := hJ
    have hd0 := deeps_nn L id.toNat
    obtain ⟨dp, hdp⟩ : ∃ dp : Int, (if 0 ≤ id ∧ id < L.length then (deeps L).getD id.toNat 0 else 0) = dp := ⟨_, rfl⟩
    have hkD := fun t => k_Deep (P := P) (G := G) hT (base := 0) (fmt := F.fmt) (v0 := v0) (v1 := v1) (v2 := v2) (v3 := v3) (v4 := v4) (t := t) (L := L) (ex := mK w0 w1 L []) (id := id)
    have hrD := fun t => r_Deep (P := P) (G := G) hT (w0 := w0) (w1 := w1) hL hok (id.toNat + 1) id t (by omega)
    rw [hdp] at hkD hrD
    rcases Int.lt_or_le L.length id with hge | hlt
    · refine W_run 1000 ?_
      simp -implicitDefEqProofs (disch := omega) only [go_sem, ↓reduceIte, Nat.reduceEqDiff, proofmarklaw02_TermTells_r6, proofmarklaw02_TermTells_r7, proofmarklaw02_TermTells_r8, proofmarklaw02_TermTells_r9, proofmarklaw02_TermTells_r10, proofmarklaw02_TermTells_r11, proofmarklaw02_TermTells_r12, f5, f8]
      refine callT hT t_term_Graph_Size (k_Size hT) 1000 fun t1 ht1 => ?_
      simp -implicitDefEqProofs (disch := omega) only [go_sem, ↓reduceIte, reduceCtorEq, Nat.reduceEqDiff, decide_false, f1, f5, f7, show ¬ id ≤ L.length from by omega]
      exact ⟨_, rfl⟩
    · have hwi : IntKind.i64.wrap (id + 1) = id + 1 := wrap_i64 (by omega) (by omega)
      by_cases hbig : 12 < dp
      · refine W_run 1000 ?_
        simp -implicitDefEqProofs (disch := omega) only [go_sem, ↓reduceIte, Nat.reduceEqDiff, proofmarklaw02_TermTells_r6, proofmarklaw02_TermTells_r7, proofmarklaw02_TermTells_r8, proofmarklaw02_TermTells_r9, proofmarklaw02_TermTells_r10, proofmarklaw02_TermTells_r11, proofmarklaw02_TermTells_r12, f5, f8]
        refine callT hT t_term_Graph_Size (k_Size hT) 1000 fun t1 ht1 => ?_
        simp -implicitDefEqProofs (disch := omega) only [go_sem, ↓reduceIte, Nat.reduceEqDiff, decide_true, f5, f8, hlt]
        refine callT hT t_term_Graph_Deep (hkD _) 1000 fun t2 ht2 => ?_
        simp -implicitDefEqProofs (disch := omega) only [go_sem, ↓reduceIte, Nat.reduceEqDiff, decide_true, gt_iff_lt, hbig]
        refine callPS hT t_proofmarklaw02_works hW rfl 1000 ?_
        simp -implicitDefEqProofs (disch := omega) only [go_sem, ↓reduceIte, reduceCtorEq, Nat.reduceEqDiff]
        try simp
      · obtain ⟨m', rfl⟩ : ∃ m', m = m' + 1 := ⟨m - 1, by omega⟩
        refine W_run 1000 ?_
        simp -implicitDefEqProofs (disch := omega) only [go_sem, ↓reduceIte, Nat.reduceEqDiff, proofmarklaw02_TermTells_r6, proofmarklaw02_TermTells_r7, proofmarklaw02_TermTells_r8, proofmarklaw02_TermTells_r9, proofmarklaw02_TermTells_r10, proofmarklaw02_TermTells_r11, proofmarklaw02_TermTells_r12, f5, f8]
        refine callT hT t_term_Graph_Size (k_Size hT) 1000 fun t1 ht1 => ?_
        simp -implicitDefEqProofs (disch := omega) only [go_sem, ↓reduceIte, Nat.reduceEqDiff, decide_true, f5, f8, hlt]
        refine callT hT t_term_Graph_Deep (hkD _) 1000 fun t2 ht2 => ?_
        simp -implicitDefEqProofs (disch := omega) only [go_sem, ↓reduceIte, Nat.reduceEqDiff, decide_false, gt_iff_lt, f7, f8, hbig]
        refine callT hT t_proofmarkref02_Graph_Deep (m_readK (hrD _) rfl rfl) 1000 fun t3 ht3 => ?_
        simp -implicitDefEqProofs (disch := omega) only [go_sem, ↓reduceIte, Nat.reduceAdd, Nat.reduceEqDiff, bne_self_eq_false, f5, f8, bne_self_eq_false]
        refine callT hT t_term_Graph_Text (k_Text hT F SO (by omega) hok) 1000 fun t4 ht4 => ?_
        simp -implicitDefEqProofs (disch := omega) only [go_sem, ↓reduceIte, Nat.reduceAdd, Nat.reduceEqDiff, f7, f8]
        refine callT hT t_proofmarkref02_Graph_Text (m_readK (r_Text hT F hL hok id _) rfl rfl) 1000 fun t5 ht5 => ?_
        simp -implicitDefEqProofs (disch := omega) only [go_sem, ↓reduceIte, Nat.reduceAdd, Nat.reduceEqDiff, bne_self_eq_false, f8, hwi, bne_self_eq_false]
        refine ⟨m', _, _, by omega, Shift.refl _ _ _ _, id + 1, t5, by omega, by omega, by omega, ?_⟩
        simp -implicitDefEqProofs (disch := omega) only [go_sem, ↓reduceIte, Nat.reduceEqDiff, f1, f5, f7]
  · rcases hE with ⟨rfl, h4⟩ | ⟨rfl, f1, f5, f7, t', rfl⟩
    · exact hQr fr σ' h4
    · exact hQ fr t' f1 f5 f7

theorem tt1 {fmt : Int → List UInt8} {v0 v1 v2 v3 v4 w0 w1 r0 t : Nat} {L : List Nd} {roots : List Int} {tr : Bool} (hrl : roots.length ≤ 1000) {Q : AE → Fr → H → Prop} {fr : Fr}
    (f1 : fget fr 1 = .lst 1 (roots.map (V.int .i64)) tr) (f5 : fget fr 5 = .ptr 1 v0 0) (f7 : fget fr 7 = .ptr 5 w0 0) (f10 : fget fr 10 = .sl 7 r0 0 1 0 none) (f11 : fget fr 11 = .int .i64 0)
    (hQ : ∀ fr' t' r, fget fr' 1 = .lst 1 (roots.map (V.int .i64)) tr → fget fr' 5 = .ptr 1 v0 0 → fget fr' 7 = .ptr 5 w0 0 → fget fr' 10 = .sl 7 r 0 1 roots.length none → Q (.ex 2) fr' ⟨t', kG fmt v0 v1 v2 v3 v4 L ++ mK w0 w1 L [some (.arr r 3 (roots.map (V.int .i64)))]⟩) :
    W P G 97 0 (.loop (AC.seq (AC.seq (AC.reg proofmarklaw02_TermTells_r15 [57, 58, 59])   (AC.cond (Arg.t 60)   AC.skip   (AC.exit 2)))   (AC.seq (AC.block 3 (AC.reg proofmarklaw02_TermTells_r16 [63, 64, 65, 66, 67, 68, 69]))   (AC.reg proofmarklaw02_TermTells_r17 [61, 62])))) fr ⟨t, kG fmt v0 v1 v2 v3 v4 L ++ mK w0 w1 L [some (.arr r0 3 [])]⟩ Q := by
  refine sem_invE (s := []) (fun m fr σ' => ∃ (i t' r : Nat), i ≤ roots.length ∧ m = roots.length - i ∧ fget fr 1 = .lst 1 (roots.map (V.int .i64)) tr ∧ fget fr 5 = .ptr 1 v0 0 ∧ fget fr 7 = .ptr 5 w0 0 ∧ fget fr 10 = .sl 7 r 0 1 i none ∧ fget fr 11 = .int .i64 i ∧ σ' = ⟨t', kG fmt v0 v1 v2 v3 v4 L ++ mK w0 w1 L [some (.arr r 3 ((roots.take i).map (V.int .i64)))]⟩)
    (fun e fr σ' => e = .ex 2 ∧ fget fr 1 = .lst 1 (roots.map (V.int .i64)) tr ∧ fget fr 5 = .ptr 1 v0 0 ∧ fget fr 7 = .ptr 5 w0 0 ∧ ∃ (t' r : Nat), fget fr 10 = .sl 7 r 0 1 roots.length none ∧ σ' = ⟨t', kG fmt v0 v1 v2 v3 v4 L ++ mK w0 w1 L [some (.arr r 3 (roots.map (V.int .i64)))]⟩)
    (m0 := roots.length) ⟨0, t, r0, Nat.zero_le _, rfl, f1, f5, f7, f10, f11, rfl⟩ (fun m fr σ' hJ => ?_) (fun e fr σ' hE => ?_)
  · clear f1 f5 f7 f10 f11
    obtain ⟨i, t', r, hi, rfl, f1, f5, f7, f10, f11, rfl⟩ := hJ
    rcases Nat.lt_or_ge i roots.length with hlt | hge
    · obtain ⟨p, hp⟩ : ∃ p, roots[i]? = some p := ⟨_, List.getElem?_eq_getElem hlt⟩
      have hg : (roots.map (V.int .i64)).getD i .any = V.int .i64 p := by simp [List.getD_eq_getElem?_getD, hp]
      have hwi : IntKind.i64.wrap ((i : Int) + 1) = ((i + 1 : Nat) : Int) := by
        rw [wrap_i64 (by omega) (by omega)]; rfl
      have htl : ((roots.take i).map (V.int .i64)).length = i := by simp; omega
      have hns : (roots.take i).map (V.int .i64) ++ [V.int .i64 p] = (roots.take (i + 1)).map (V.int .i64) := by rw [take_snoc2 hp]; simp
      refine W_run 1000 ?_
      simp -implicitDefEqProofs (disch := omega) only [go_sem, need_of, ↓reduceIte, reduceCtorEq, Nat.reduceEqDiff, Nat.reduceLeDiff, Nat.zero_add, Nat.mul_one, decide_true, Bool.not_true, Nat.le_refl, Nat.zero_le, proofmarklaw02_TermTells_r15, proofmarklaw02_TermTells_r16, proofmarklaw02_TermTells_r17, List.length_map, f1, f10, f11, hlt, hg, hwi, htl, mK_7, mKs_7, List.length_cons, List.length_nil, List.cons_append, List.nil_append]
      refine ⟨roots.length - (i + 1), _, _, by omega, Shift.refl _ _ _ _, i + 1, t' + 1, t', hlt, rfl, ?_⟩
      simp -implicitDefEqProofs (disch := omega) only [go_sem, ↓reduceIte, Nat.reduceEqDiff, f1, f5, f7, hns]
    · have hil : i = roots.length := by omega
      subst hil
      refine W_run 1000 ?_
      simp -implicitDefEqProofs (disch := omega) only [go_sem, ↓reduceIte, Nat.reduceEqDiff, decide_false, proofmarklaw02_TermTells_r15, proofmarklaw02_TermTells_r16, proofmarklaw02_TermTells_r17, List.length_map, f1, f5, f7, f10, f11, show ¬ roots.length < roots.length from by omega, List.take_length]
      exact ⟨t', r, rfl, rfl, rfl⟩
  · obtain ⟨rfl, f1, f5, f7, t', r, f10, rfl⟩ := hE
    exact hQ fr t' r f1 f5 f7 f10

theorem tt2 {σ : H} {U : List V} {z : Bool} (hU : U.length ≤ 1000000) (hi : ∀ v ∈ U, ∃ x : Int, v = .int .i64 x) {Q : AE → Fr → H → Prop} {fr : Fr}
    (f12 : fget fr 12 = .lst 1 U z) (f13 : fget fr 13 = .lst 1 U z) (f14 : fget fr 14 = .int .i64 0)
    (hQ : ∀ fr' σ', Q (.ex 4) fr' σ') :
    W P G 97 0 (.loop (AC.seq (AC.seq (AC.reg proofmarklaw02_TermTells_r22 [81, 82, 83])   (AC.cond (Arg.t 84)   AC.skip   (AC.exit 4)))   (AC.seq (AC.block 5 (AC.seq (AC.reg proofmarklaw02_TermTells_r23 [87, 88, 89, 90, 91, 92, 93, 94])   (AC.cond (Arg.t 95)   (AC.seq (AC.reg proofmarklaw02_TermTells_r24 [])   AC.ret)   AC.skip)))   (AC.reg proofmarklaw02_TermTells_r25 [85, 86])))) fr σ Q := by
  refine sem_invE (s := []) (fun m fr σ' => ∃ (i : Nat), i ≤ U.length ∧ m = U.length - i ∧ fget fr 12 = .lst 1 U z ∧ fget fr 13 = .lst 1 U z ∧ fget fr 14 = .int .i64 i)
    (fun e fr σ' => e = .ex 4) (m0 := U.length) ⟨0, Nat.zero_le _, rfl, f12, f13, f14⟩ (fun m fr σ' hJ => ?_) (fun e fr σ' hE => ?_)
  · clear f12 f13 f14
    obtain ⟨i, hle, rfl, f12, f13, f14⟩ := hJ
    rcases Nat.lt_or_ge i U.length with hlt | hge
    · obtain ⟨p, hp⟩ : ∃ p, U[i]? = some p := ⟨_, List.getElem?_eq_getElem hlt⟩
      obtain ⟨x, rfl⟩ := hi p (List.mem_of_getElem? hp)
      have hg : U.getD i .any = V.int .i64 x := by simp [List.getD_eq_getElem?_getD, hp]
      have hwi : IntKind.i64.wrap ((i : Int) + 1) = ((i + 1 : Nat) : Int) := by
        rw [wrap_i64 (by omega) (by omega)]; rfl
      refine W_run 1000 ?_
      simp -implicitDefEqProofs (disch := omega) only [go_sem, need_of, ↓reduceIte, Nat.reduceEqDiff, Nat.zero_add, decide_true, Nat.le_refl, bne_self_eq_false, proofmarklaw02_TermTells_r22, proofmarklaw02_TermTells_r23, proofmarklaw02_TermTells_r24, proofmarklaw02_TermTells_r25, f12, f13, f14, hlt, hg, hwi, bne_self_eq_false]
      refine ⟨U.length - (i + 1), _, _, by omega, Shift.refl _ _ _ _, i + 1, hlt, rfl, ?_⟩
      simp -implicitDefEqProofs (disch := omega) only [go_sem, ↓reduceIte, Nat.reduceEqDiff, f12, f13]
    · refine W_run 1000 ?_
      simp -implicitDefEqProofs (disch := omega) only [go_sem, ↓reduceIte, Nat.reduceEqDiff, decide_false, proofmarklaw02_TermTells_r22, proofmarklaw02_TermTells_r23, proofmarklaw02_TermTells_r24, proofmarklaw02_TermTells_r25, f12, f14, show ¬ i < U.length from by omega]
  · subst hE
    exact hQ fr σ'
theorem c_TermTells (hT : TabOk P tab) (F : Fmt P G) (SO : SortOk P) (hW : Pure P G n_proofmarklaw02_works [] fun v => v = .bool true) {t : Nat} (l : List Nd) (roots : List Int) (tl tr : Bool) (hl : ∀ d ∈ l, i64 d.n ∧ i64 d.a) :
   C P G 0 n_proofmarklaw02_TermTells [.lst 6 (l.map fun d => .agg d.cells) tl, .lst 1 (roots.map (V.int .i64)) tr] ⟨t, []⟩ fun v σ => v = .bool true := by
  have hA := madeL_len l []
  have hok := okN_made l hl
  have hAe : madeL l = l.foldl (fun L d => (addN L d).2) [] := rfl
  rw [← hAe] at hA
  simp only [List.length_nil] at hA
  have hUn : (usesL (madeL l) roots).length ≤ (madeL l).length := nodup_len _ _ uses_nodup uses_ok
  refine C_tab hT t_proofmarklaw02_TermTells (by simp [proofmarklaw02_TermTells]) (W_run 1000 ?_)
  by_cases h1 : (40 : Int) < l.length
  · simp -implicitDefEqProofs (disch := omega) only [go_sem, ↓reduceIte, reduceCtorEq, Nat.reduceEqDiff, Nat.zero_add, decide_true, gt_iff_lt, proofmarklaw02_TermTells, proofmarklaw02_TermTells_r0, proofmarklaw02_TermTells_r1, proofmarklaw02_TermTells_r2, proofmarklaw02_TermTells_r3, proofmarklaw02_TermTells_r4, proofmarklaw02_TermTells_r5, proofmarklaw02_TermTells_r6, proofmarklaw02_TermTells_r7, proofmarklaw02_TermTells_r8, proofmarklaw02_TermTells_r9, proofmarklaw02_TermTells_r10, proofmarklaw02_TermTells_r11, proofmarklaw02_TermTells_r12, proofmarklaw02_TermTells_r13, proofmarklaw02_TermTells_r14, proofmarklaw02_TermTells_r15, proofmarklaw02_TermTells_r16, proofmarklaw02_TermTells_r17, proofmarklaw02_TermTells_r18, proofmarklaw02_TermTells_r19, proofmarklaw02_TermTells_r20, proofmarklaw02_TermTells_r21, proofmarklaw02_TermTells_r22, proofmarklaw02_TermTells_r23, proofmarklaw02_TermTells_r24, proofmarklaw02_TermTells_r25, proofmarklaw02_TermTells_r26, List.length_map, h1]
    refine callPS hT t_proofmarklaw02_works hW rfl 1000 ?_
    simp -implicitDefEqProofs (disch := omega) only [go_sem, ↓reduceIte, reduceCtorEq, Nat.reduceEqDiff]
  · by_cases h2 : (20 : Int) < roots.length
    · simp -implicitDefEqProofs (disch := omega) only [go_sem, ↓reduceIte, reduceCtorEq, Nat.reduceAdd, Nat.reduceEqDiff, Nat.zero_add, decide_true, decide_false, gt_iff_lt, proofmarklaw02_TermTells, proofmarklaw02_TermTells_r0, proofmarklaw02_TermTells_r1, proofmarklaw02_TermTells_r2, proofmarklaw02_TermTells_r3, proofmarklaw02_TermTells_r4, proofmarklaw02_TermTells_r5, proofmarklaw02_TermTells_r6, proofmarklaw02_TermTells_r7, proofmarklaw02_TermTells_r8, proofmarklaw02_TermTells_r9, proofmarklaw02_TermTells_r10, proofmarklaw02_TermTells_r11, proofmarklaw02_TermTells_r12, proofmarklaw02_TermTells_r13, proofmarklaw02_TermTells_r14, proofmarklaw02_TermTells_r15, proofmarklaw02_TermTells_r16, proofmarklaw02_TermTells_r17, proofmarklaw02_TermTells_r18, proofmarklaw02_TermTells_r19, proofmarklaw02_TermTells_r20, proofmarklaw02_TermTells_r21, proofmarklaw02_TermTells_r22, proofmarklaw02_TermTells_r23, proofmarklaw02_TermTells_r24, proofmarklaw02_TermTells_r25, proofmarklaw02_TermTells_r26, List.length_map, h1, h2]
      refine callPS hT t_proofmarklaw02_works hW rfl 1000 ?_
      simp -implicitDefEqProofs (disch := omega) only [go_sem, ↓reduceIte, reduceCtorEq, Nat.reduceEqDiff]
    · simp -implicitDefEqProofs (disch := omega) only [go_sem, ↓reduceIte, reduceCtorEq, Nat.reduceAdd, Nat.reduceEqDiff, Nat.zero_add, decide_false, gt_iff_lt, proofmarklaw02_TermTells, proofmarklaw02_TermTells_r0, proofmarklaw02_TermTells_r1, proofmarklaw02_TermTells_r2, proofmarklaw02_TermTells_r3, proofmarklaw02_TermTells_r4, proofmarklaw02_TermTells_r5, proofmarklaw02_TermTells_r6, proofmarklaw02_TermTells_r7, proofmarklaw02_TermTells_r8, proofmarklaw02_TermTells_r9, proofmarklaw02_TermTells_r10, proofmarklaw02_TermTells_r11, proofmarklaw02_TermTells_r12, proofmarklaw02_TermTells_r13, proofmarklaw02_TermTells_r14, proofmarklaw02_TermTells_r15, proofmarklaw02_TermTells_r16, proofmarklaw02_TermTells_r17, proofmarklaw02_TermTells_r18, proofmarklaw02_TermTells_r19, proofmarklaw02_TermTells_r20, proofmarklaw02_TermTells_r21, proofmarklaw02_TermTells_r22, proofmarklaw02_TermTells_r23, proofmarklaw02_TermTells_r24, proofmarklaw02_TermTells_r25, proofmarklaw02_TermTells_r26, List.length_map, h1, h2]
      refine callMade hT F l tl hl (by omega) 1000 fun v0 v1 v2 v3 v4 c1 u hc1 => ?_
      simp -implicitDefEqProofs (disch := omega) only [go_sem, ↓reduceIte, reduceCtorEq, Nat.reduceAdd, Nat.reduceEqDiff, Nat.reduceLT, Nat.zero_add]
      refine callPlain hT (by omega) 1000 fun w0 w1 c2 hc2 => ?_
      simp -implicitDefEqProofs (disch := omega) only [go_sem, ↓reduceIte, reduceCtorEq, Nat.reduceEqDiff]
      refine tt0 hT F SO hW (vr := .lst 1 (roots.map (V.int .i64)) tr) (by omega) hok (by simp -implicitDefEqProofs (disch := omega) only [go_sem, ↓reduceIte, reduceCtorEq]) (by simp -implicitDefEqProofs (disch := omega) only [go_sem, ↓reduceIte, reduceCtorEq, Nat.reduceEqDiff]) (by simp -implicitDefEqProofs (disch := omega) only [go_sem, ↓reduceIte, reduceCtorEq, Nat.reduceEqDiff]) (by simp -implicitDefEqProofs (disch := omega) only [go_sem, ↓reduceIte, reduceCtorEq, Nat.reduceEqDiff]) (fun fr' σ' h4 => ?_) (fun fr' c3 g1 g5 g7 => ?_)
      · refine run_sem 1000 ?_
        simp -implicitDefEqProofs (disch := omega) only [go_sem, h4]
      · refine run_sem 1000 ?_
        simp -implicitDefEqProofs (disch := omega) only [go_sem, ↓reduceIte]
        refine sem_shift (Shift.own (s := 10) (sz := 1) (T := 3) (z := 0) (by simp -implicitDefEqProofs (disch := omega) only [go_sem, ↓reduceIte, Nat.reduceEqDiff]) (by decide)) (run_sem 1000 ?_)
        simp -implicitDefEqProofs (disch := omega) only [go_sem, Nat.reduceAdd, Nat.add_zero, kG_len, kG_app, mK_len, mK_app, List.length_nil, List.nil_append]
        refine tt1 (roots := roots) (tr := tr) (by omega) (by simp -implicitDefEqProofs (disch := omega) only [go_sem, ↓reduceIte, Nat.reduceEqDiff, g1]) (by simp -implicitDefEqProofs (disch := omega) only [go_sem, ↓reduceIte, Nat.reduceEqDiff, g5]) (by simp -implicitDefEqProofs (disch := omega) only [go_sem, ↓reduceIte, Nat.reduceEqDiff, g7]) (by simp -implicitDefEqProofs (disch := omega) only [go_sem, ↓reduceIte]) (by simp -implicitDefEqProofs (disch := omega) only [go_sem, ↓reduceIte, Nat.reduceEqDiff]) (fun fr'' c4 r k1 k5 k7 k10 => ?_)
        refine run_sem 1000 ?_
        simp -implicitDefEqProofs (disch := omega) only [go_sem, ↓reduceIte, Nat.reduceEqDiff, k1, k5]
        refine callT hT t_term_Graph_Uses (k_Uses hT SO (by omega) hok.wf roots 1 tr (.inl rfl) (by omega)) 1000 fun c5 hc5 => ?_
        simp -implicitDefEqProofs (disch := omega) only [go_sem, ↓reduceIte, Nat.reduceEqDiff, k7, k10]
        refine callT hT t_proofmarkref02_Graph_Uses (r_UsesK hT (by omega) hok (by omega)) 1000 fun c6 hc6 => ?_
        simp -implicitDefEqProofs (disch := omega) only [go_sem, ↓reduceIte, Nat.reduceEqDiff, bne_self_eq_false, List.length_map, bne_self_eq_false]
        refine tt2 (U := (usesL (madeL l) roots).map (V.int .i64)) (z := false) (by rw [List.length_map]; omega) (fun v hv => by obtain ⟨x, _, rfl⟩ := List.mem_map.1 hv; exact ⟨x, rfl⟩) (by simp -implicitDefEqProofs (disch := omega) only [go_sem, ↓reduceIte, Nat.reduceEqDiff]) (by simp -implicitDefEqProofs (disch := omega) only [go_sem, ↓reduceIte, Nat.reduceEqDiff]) (by simp -implicitDefEqProofs (disch := omega) only [go_sem, ↓reduceIte]) (fun fr3 σ3 => ?_)
        refine run_sem 1000 ?_
        simp -implicitDefEqProofs (disch := omega) only [go_sem, ↓reduceIte]
        refine callPS hT t_proofmarklaw02_works hW rfl 1000 ?_
        simp -implicitDefEqProofs (disch := omega) only [go_sem, ↓reduceIte, Nat.reduceEqDiff]
end Go.Proofs.YtchcnfokhagpkaaDoor
