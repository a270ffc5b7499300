/- Instructions' texts: the same just if they are. -/
import Derived.Test.YtkhdfbokkneeaaaDoorRvD
import Derived.Test.YtkhdfbokkneeaaaDoorAmD
namespace Go.Rv
open Go Go.Am
set_option maxRecDepth 100000

/-- Parts, each behind ", ". -/
def parts (fmt : Int → List UInt8) (f : Int) (x : In) : List (List UInt8) :=
  (if hasRd f then [120 :: fmt x.rd] else []) ++ (if hasR1 f then [120 :: fmt x.rs1] else []) ++ (if hasR2 f then [120 :: fmt x.rs2] else []) ++ (if f = 82 ∨ f = 69 then [] else [fmt x.imm])

def glue : List (List UInt8) → List UInt8
  | [] => []
  | p :: l => 44 :: 32 :: (p ++ glue l)

/-- An instruction's text. -/
def txt (fmt : Int → List UInt8) (T : List RR) (x : In) : List UInt8 :=
  if (enc T x).2 = 0 then (T.getD (x.op - 1).toNat ⟨0, [], 0, 0, 0⟩).name ++ (glue (parts fmt (T.getD (x.op - 1).toNat ⟨0, [], 0, 0, 0⟩).form x)).tail else []

theorem T_names : ∀ i j : Fin 65, (T.getD i ⟨0, [], 0, 0, 0⟩).name = (T.getD j ⟨0, [], 0, 0, 0⟩).name → i = j := by decide +kernel
def notSp (c : UInt8) : Bool := c != 32
theorem T_nosp : ∀ r ∈ T, ∀ c ∈ r.name, notSp c = true := by decide +kernel

theorem enc_ok {x : In} (h : (enc T x).2 = 0) : ∃ r, T[(x.op - 1).toNat]? = some r ∧ 1 ≤ x.op ∧ x.op ≤ 65 ∧ x.rd ≤ 31 ∧ x.rs1 ≤ 31 ∧ x.rs2 ≤ 31 ∧ (hasRd r.form = false → x.rd = 0) ∧ (hasR1 r.form = false → x.rs1 = 0) ∧ (hasR2 r.form = false → x.rs2 = 0) ∧ (r.form = 82 ∨ r.form = 69 → x.imm = 0) ∧ room r.form x.imm = true := by
  unfold enc at h
  split at h
  rotate_left
  · simp at h
  rename_i hop
  have hop2 := hop.2
  rw [T_len] at hop2
  obtain ⟨r, hk⟩ : ∃ r, T[(x.op - 1).toNat]? = some r := ⟨_, List.getElem?_eq_getElem (by rw [T_len]; omega)⟩
  rw [hk] at h
  simp only at h
  split at h
  · simp at h
  rename_i hc
  split at h
  · simp at h
  rename_i hr
  simp only [not_or, not_and, Classical.not_not] at hc
  exact ⟨r, hk, hop.1, by omega, by omega, by omega, by omega, hc.2.2.2.1, hc.2.2.2.2.1, hc.2.2.2.2.2.1, hc.2.2.2.2.2.2, by simpa using hr⟩

theorem glue_nx : ∀ l : List (List UInt8), nx isD (glue l) = true
  | [] => rfl
  | p :: l => by show (!isD 44) = true; decide

theorem glue_sp (l : List (List UInt8)) : nx notSp (glue l).tail = true := by
  cases l with
  | nil => rfl
  | cons p l => show (!notSp 32) = true; decide

theorem txt_inj {fmt : Int → List UInt8} (hf : NumOk fmt) {x y : In} (hx : (enc T x).2 = 0) (hy : (enc T y).2 = 0) (ix : i64 x.imm) (iy : i64 y.imm) (x1 : 0 ≤ x.rd ∧ 0 ≤ x.rs1 ∧ 0 ≤ x.rs2) (y1 : 0 ≤ y.rd ∧ 0 ≤ y.rs1 ∧ 0 ≤ y.rs2) (h : txt fmt T x = txt fmt T y) : x = y := by
  obtain ⟨r, hr, o0, o1, a1, a2, a3, a4, a5, a6, a7, _⟩ := enc_ok hx
  obtain ⟨s, hs, p0, p1, b1, b2, b3, b4, b5, b6, b7, _⟩ := enc_ok hy
  have er : T.getD (x.op - 1).toNat ⟨0, [], 0, 0, 0⟩ = r := by rw [List.getD_eq_getElem?_getD, hr]; rfl
  have es : T.getD (y.op - 1).toNat ⟨0, [], 0, 0, 0⟩ = s := by rw [List.getD_eq_getElem?_getD, hs]; rfl
  rw [txt, if_pos hx, txt, if_pos hy, er, es] at h
  obtain ⟨hn, hrest⟩ := split_p r.name s.name _ _ (T_nosp r (List.mem_of_getElem? hr)) (T_nosp s (List.mem_of_getElem? hs)) (glue_sp _) (glue_sp _) h
  have hop : x.op = y.op := by
    have := T_names ⟨(x.op - 1).toNat, by omega⟩ ⟨(y.op - 1).toNat, by omega⟩ (by simp only [er, es]; exact hn)
    simp only [Fin.mk.injEq] at this
    omega
  rw [hop, hs] at hr
  cases hr
  clear hx hy h
  obtain ⟨xop, xrd, xr1, xr2, ximm⟩ := x
  obtain ⟨yop, yrd, yr1, yr2, yimm⟩ := y
  simp only at *
  subst hop
  have small : ∀ z : Int, 0 ≤ z → z ≤ 31 → i64 z := fun z h1 h2 => ⟨by omega, by omega⟩
  have step : ∀ (a b : Int) (l m : List (List UInt8)), i64 a → i64 b → fmt a ++ glue l = fmt b ++ glue m → a = b ∧ glue l = glue m := fun a b l m ha hb h => hf.inj a b ha hb _ _ (glue_nx _) (glue_nx _) h
  have hg := T_good r (List.mem_of_getElem? hs)
  simp only [good, Bool.and_eq_true, Bool.or_eq_true, decide_eq_true_eq, or_assoc] at hg
  have hform : r.form = 82 ∨ r.form = 87 ∨ r.form = 73 ∨ r.form = 72 ∨ r.form = 83 ∨ r.form = 66 ∨ r.form = 85 ∨ r.form = 74 ∨ r.form = 69 := by
    rcases hg.2 with h | h | h | h | h | h | h | h | h <;> simp [h]
  clear hg
  have fin : ∀ a b c d : Prop, a → b → c → d → a ∧ b ∧ c ∧ d := fun _ _ _ _ h1 h2 h3 h4 => ⟨h1, h2, h3, h4⟩
  rcases hform with hq | hq | hq | hq | hq | hq | hq | hq | hq <;>
    (rw [hq] at a4 a5 a6 a7 b4 b5 b6 b7 hrest
     simp only [hasRd, hasR1, hasR2, parts, glue, Int.reduceEq, or_true, or_false, decide_true, decide_false, if_true, if_false, Bool.false_eq_true, Bool.true_eq_false, forall_const, false_implies, List.nil_append, List.append_nil, List.cons_append, List.tail_cons, List.cons.injEq, true_and] at a4 a5 a6 a7 b4 b5 b6 b7 hrest
     simp only [In.mk.injEq, true_and])
  · obtain ⟨e1, h⟩ := hf.inj _ _ (small _ x1.1 a1) (small _ y1.1 b1) _ _ rfl rfl hrest
    simp only [List.cons.injEq, true_and] at h
    obtain ⟨e2, h⟩ := hf.inj _ _ (small _ x1.2.1 a2) (small _ y1.2.1 b2) _ _ rfl rfl h
    simp only [List.cons.injEq, true_and] at h
    obtain ⟨e3, h⟩ := hf.inj _ _ (small _ x1.2.2 a3) (small _ y1.2.2 b3) [] [] rfl rfl (by simpa using h)
    exact ⟨e1, e2, e3, by rw [a7, b7]⟩
  · obtain ⟨e1, h⟩ := hf.inj _ _ (small _ x1.1 a1) (small _ y1.1 b1) _ _ rfl rfl hrest
    simp only [List.cons.injEq, true_and] at h
    obtain ⟨e2, h⟩ := hf.inj _ _ (small _ x1.2.1 a2) (small _ y1.2.1 b2) _ _ rfl rfl h
    simp only [List.cons.injEq, true_and] at h
    obtain ⟨e3, h⟩ := hf.inj _ _ ix iy [] [] rfl rfl (by simpa using h)
    exact ⟨e1, e2, by rw [a6, b6], e3⟩
  · obtain ⟨e1, h⟩ := hf.inj _ _ (small _ x1.1 a1) (small _ y1.1 b1) _ _ rfl rfl hrest
    simp only [List.cons.injEq, true_and] at h
    obtain ⟨e2, h⟩ := hf.inj _ _ (small _ x1.2.1 a2) (small _ y1.2.1 b2) _ _ rfl rfl h
    simp only [List.cons.injEq, true_and] at h
    obtain ⟨e3, h⟩ := hf.inj _ _ ix iy [] [] rfl rfl (by simpa using h)
    exact ⟨e1, e2, by rw [a6, b6], e3⟩
  · obtain ⟨e1, h⟩ := hf.inj _ _ (small _ x1.1 a1) (small _ y1.1 b1) _ _ rfl rfl hrest
    simp only [List.cons.injEq, true_and] at h
    obtain ⟨e2, h⟩ := hf.inj _ _ (small _ x1.2.1 a2) (small _ y1.2.1 b2) _ _ rfl rfl h
    simp only [List.cons.injEq, true_and] at h
    obtain ⟨e3, h⟩ := hf.inj _ _ ix iy [] [] rfl rfl (by simpa using h)
    exact ⟨e1, e2, by rw [a6, b6], e3⟩
  · obtain ⟨e1, h⟩ := hf.inj _ _ (small _ x1.2.1 a2) (small _ y1.2.1 b2) _ _ rfl rfl hrest
    simp only [List.cons.injEq, true_and] at h
    obtain ⟨e2, h⟩ := hf.inj _ _ (small _ x1.2.2 a3) (small _ y1.2.2 b3) _ _ rfl rfl h
    simp only [List.cons.injEq, true_and] at h
    obtain ⟨e3, h⟩ := hf.inj _ _ ix iy [] [] rfl rfl (by simpa using h)
    exact ⟨by rw [a4, b4], e1, e2, e3⟩
  · obtain ⟨e1, h⟩ := hf.inj _ _ (small _ x1.2.1 a2) (small _ y1.2.1 b2) _ _ rfl rfl hrest
    simp only [List.cons.injEq, true_and] at h
    obtain ⟨e2, h⟩ := hf.inj _ _ (small _ x1.2.2 a3) (small _ y1.2.2 b3) _ _ rfl rfl h
    simp only [List.cons.injEq, true_and] at h
    obtain ⟨e3, h⟩ := hf.inj _ _ ix iy [] [] rfl rfl (by simpa using h)
    exact ⟨by rw [a4, b4], e1, e2, e3⟩
  · obtain ⟨e1, h⟩ := hf.inj _ _ (small _ x1.1 a1) (small _ y1.1 b1) _ _ rfl rfl hrest
    simp only [List.cons.injEq, true_and] at h
    obtain ⟨e2, h⟩ := hf.inj _ _ ix iy [] [] rfl rfl (by simpa using h)
    exact ⟨e1, by rw [a5, b5], by rw [a6, b6], e2⟩
  · obtain ⟨e1, h⟩ := hf.inj _ _ (small _ x1.1 a1) (small _ y1.1 b1) _ _ rfl rfl hrest
    simp only [List.cons.injEq, true_and] at h
    obtain ⟨e2, h⟩ := hf.inj _ _ ix iy [] [] rfl rfl (by simpa using h)
    exact ⟨e1, by rw [a5, b5], by rw [a6, b6], e2⟩
  · exact ⟨by rw [a4, b4], by rw [a5, b5], by rw [a6, b6], by rw [a7, b7]⟩
end Go.Rv
