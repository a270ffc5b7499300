/- A formula's text: what is asked of the library; contracts that only make new blocks, as calls. -/
import Derived.Test.YtingdebioipemaaDoorJ4
import Derived.Test.YtingdebioipemaaDoorProg
import Derived.WalkKit
import Derived.Lib.BufferRead
import Derived.Lib.OthersKept
import Derived.Deep.Draws
import Derived.Test.YtingdebioipemaaDoorAmD
import Derived.Test.YtingdebioipemaaDoorTabEq
import Derived.LoopTactic
import Derived.Lib.ItoaLen
import Derived.Deep.Cut
import Derived.Lib.BufferOld
/- A formula's text: what is asked of the library; contracts that only make new blocks, as calls. -/
namespace Go.Proofs.YtingdebioipemaaDoor
open Go Go.Am Go.Cl Go.RowKit
set_option maxRecDepth 100000
theorem C_calls {P : Program} {G : Nat → Option V} {f t : Nat} {args : List V} {Q : V → H → Prop} (h : C P G 0 f args ⟨t, []⟩ Q) {I : Imm} {ρ : Names} {w : World} {xs : Array Value} (R : Rel G I ρ ⟨t, []⟩ w) (hc : Cells I ρ args xs) :
    Calls P f xs w fun e w' => ∃ v x I' ρ' σ', e = .returned x ∧ VR I' ρ' v x ∧ Rel G I' ρ' σ' w' ∧ I.le I' ∧ Below w.heap.size w w' ∧ Q v σ' :=
  (h I ρ w xs R (Nat.zero_le _) hc).mono fun e w' ⟨v, x, I', ρ', σ', h1, h2, h3, h4, _, h6⟩ =>
    ⟨v, x, I', ρ', σ', h1, h2, h3, h4.imms, ⟨h4.os, h4.tape, h4.output, h4.size, fun k hk => h4.keep k hk fun n _ e => by simp [blk] at e⟩, h6⟩
theorem Rel_later {G : Nat → Option V} {I : Imm} {ρ : Names} {w w' : World} {t : Nat} (R : Rel G I ρ ⟨t, []⟩ w) (h : Below w.heap.size w w') : Rel G I ρ ⟨t, []⟩ w' := R.ex ⟨h.os, h.tape, h.output, h.size, h.block⟩
structure BufK (P : Program) : Prop where
  ws : ∀ (B b : Nat) (bs : List Value) (s : ByteArray) (w : World), Lib.IsBuffer 70 5 B b bs w → B ≤ w.heap.size → (∀ v ∈ bs, v.oneCell' = true) → bs.length + s.size ≤ 140737488355328 →
    Calls P n_bytes_Buffer_WriteString #[.pointer (some ⟨b, 0, none⟩), .string s] w fun e w' => e = .returned (.tuple #[.int .i64 s.size, .nilIface]) ∧ Lib.IsBuffer 70 5 B b (bs ++ Lib.byteCells s.data.toList) w' ∧ Below B w w' ∧ Lib.OthersKept 5 (some b) w w'
  wb : ∀ (B b : Nat) (bs : List Value) (c : Int) (w : World), Lib.IsBuffer 70 5 B b bs w → B ≤ w.heap.size → (∀ v ∈ bs, v.oneCell' = true) → bs.length + 1 ≤ 140737488355328 →
    Calls P n_bytes_Buffer_WriteByte #[.pointer (some ⟨b, 0, none⟩), .int .u8 c] w fun e w' => e = .returned .nilIface ∧ Lib.IsBuffer 70 5 B b (bs ++ [.int .u8 c]) w' ∧ Below B w w' ∧ Lib.OthersKept 5 (some b) w w'
  by_ : ∀ (B b : Nat) (bs : List Value) (w : World), Lib.IsBuffer 70 5 B b bs w →
    Calls P n_bytes_Buffer_Bytes #[.pointer (some ⟨b, 0, none⟩)] w fun e w' => ∃ v, e = .returned v ∧ w'.ownsRow B 5 1 v bs.length bs ∧ ∃ n, w' = w.drewN n
def ItoaK (P : Program) (G : Nat → Option V) : Prop := ∀ n : Int, -9223372036854775808 ≤ n ∧ n ≤ 9223372036854775807 → Am.Pure P G n_strconv_Itoa [.int .i64 n] fun u => u = .str (fmt10 n)
end Go.Proofs.YtingdebioipemaaDoor
/- A formula's text, walked. -/
namespace Go.Proofs.YtingdebioipemaaDoor
open Go Go.Am Go.Cl Go.RowKit
set_option maxRecDepth 100000
variable {G : Nat → Option V}
def litsB (c : List Int) : List UInt8 := (c.map fun n => fmt10 n ++ [32]).flatten
def clB (F : List (List Int)) : List UInt8 := (F.map fun c => litsB c ++ [48, 10]).flatten
def inB (c : List Int) (m : Nat) : List UInt8 := litsB (c.take m) ++ if m = c.length + 1 then [48] else []
def headB (v : Int) (F : List (List Int)) : List UInt8 := [112, 32, 99, 110, 102, 32] ++ fmt10 v ++ [32] ++ fmt10 F.length ++ [10]
def putB (v : Int) (F : List (List Int)) : List UInt8 := headB v F ++ clB F
theorem fmt_len {n : Int} (h : -9223372036854775808 ≤ n ∧ n ≤ 9223372036854775807) : (fmt10 n).length ≤ 21 := by
  have e : fmt10 n = Lib.itoa n := by unfold fmt10; exact if_pos h
  rw [e]; exact Lib.itoa_length_le n h.1 h.2
theorem litsB_len {c : List Int} (h : ∀ n ∈ c, n ≠ 0 ∧ -16777216 ≤ n ∧ n ≤ 16777216) : (litsB c).length ≤ 22 * c.length := by
  unfold litsB
  induction c with
  | nil => simp
  | cons n c ih =>
    have h1 := fmt_len (n := n) (by have := h n (by simp); omega)
    have h2 := ih fun m hm => h m (by simp [hm])
    simp only [List.map_cons, List.flatten_cons, List.length_append, List.length_cons, List.length_nil] at *
    omega
theorem clB_len : ∀ {F : List (List Int)}, (∀ c ∈ F, c.length ≤ 1000) → (∀ c ∈ F, ∀ n ∈ c, n ≠ 0 ∧ -16777216 ≤ n ∧ n ≤ 16777216) → (clB F).length ≤ 22002 * F.length
  | [], _, _ => by simp [clB]
  | c :: F, hc, h => by
    have h1 := litsB_len (h c (by simp))
    have h2 := hc c (by simp)
    have h3 := clB_len (F := F) (fun d hd => hc d (by simp [hd])) fun d hd => h d (by simp [hd])
    simp only [clB, List.map_cons, List.flatten_cons, List.length_append, List.length_cons, List.length_nil] at *
    omega
theorem headB_len {v : Int} {F : List (List Int)} (hv : -9223372036854775808 ≤ v ∧ v ≤ 9223372036854775807) (hF : F.length ≤ 1000) : (headB v F).length ≤ 50 := by
  have h1 := fmt_len hv
  have h2 := fmt_len (n := (F.length : Int)) (by omega)
  simp only [headB, List.length_append, List.length_cons, List.length_nil]; omega
theorem lens {v : Int} {F : List (List Int)} (hv : -9223372036854775808 ≤ v ∧ v ≤ 9223372036854775807) (hF : F.length ≤ 1000) (hc : ∀ c ∈ F, c.length ≤ 1000) (hn : ∀ c ∈ F, ∀ n ∈ c, n ≠ 0 ∧ -16777216 ≤ n ∧ n ≤ 16777216) {k m : Nat} {c : List Int} (hk : F[k]? = some c) (hm : m ≤ c.length + 1) :
    (headB v F ++ clB (F.take k) ++ inB c m).length ≤ 100000000 := by
  have h1 := headB_len hv hF
  have h2 := clB_len (F := F.take k) (fun d hd => hc d (List.mem_of_mem_take hd)) fun d hd => hn d (List.mem_of_mem_take hd)
  have h3 := litsB_len (c := c.take m) fun x hx => hn c (List.mem_of_getElem? hk) x (List.mem_of_mem_take hx)
  have h4 := hc c (List.mem_of_getElem? hk)
  have h5 : (F.take k).length ≤ F.length := by simp; omega
  have h6 : (c.take m).length ≤ c.length := by simp; omega
  have h7 : (inB c m).length ≤ (litsB (c.take m)).length + 1 := by
    unfold inB; rw [List.length_append]; split <;> simp
  simp only [List.length_append]
  omega
theorem fmt_zero : fmt10 0 = [48] := by kernel_rfl
theorem inB_step {c : List Int} {m : Nat} {n : Int} (hm : m < c.length) (h : c[m]? = some n) : inB c (m + 1) = inB c m ++ (fmt10 n ++ [32]) := by
  unfold inB litsB
  rw [take_snoc h, List.map_append, List.flatten_append, if_neg (by omega), if_neg (by omega)]
  simp
theorem inB_last (c : List Int) : inB c (c.length + 1) = inB c c.length ++ [48] := by
  unfold inB
  rw [if_pos rfl, if_neg (by omega), List.take_length, List.take_of_length_le (by omega)]
  simp
theorem inB_all (c : List Int) : litsB c ++ [48, 10] = inB c (c.length + 1) ++ [10] := by
  unfold inB
  rw [if_pos rfl, List.take_of_length_le (by omega)]
  simp
theorem clB_snoc {F : List (List Int)} {k : Nat} {c : List Int} (h : F[k]? = some c) : clB (F.take (k + 1)) = clB (F.take k) ++ (litsB c ++ [48, 10]) := by
  unfold clB
  rw [take_snoc h, List.map_append, List.flatten_append]
  simp
theorem byteCells_snoc1 (l : List UInt8) (b : UInt8) : Lib.byteCells (l ++ [b]) = Lib.byteCells l ++ [.int .u8 b.toNat] := by simp [Lib.byteCells]
theorem VR_bool {I : Imm} {ρ : Names} {b : Bool} {x : Value} (h : VR I ρ (.bool b) x) : x = .bool b := by cases h; rfl
theorem VR_str {I : Imm} {ρ : Names} {s : List UInt8} {x : Value} (h : VR I ρ (.str s) x) : x = .string ⟨s.toArray⟩ := by cases h; rfl
theorem Cells_one {I : Imm} {ρ : Names} {v : V} {x : Value} (h : VR I ρ v x) : Cells I ρ [v] #[x] := ⟨rfl, fun j v' x' h1 h2 => by
  match j, h1, h2 with
  | 0, h1, h2 => cases h1; cases h2; exact h
  | j + 1, h1, h2 => simp at h1⟩
theorem itoa_calls {P : Program} {n : Int} (It : ItoaK P G) (hn : -9223372036854775808 ≤ n ∧ n ≤ 9223372036854775807) {I : Imm} {ρ : Names} {w w1 : World} {t : Nat} (R : Rel G I ρ ⟨t, []⟩ w) (h1 : Below w.heap.size w w1) :
    Calls P n_strconv_Itoa #[.int .i64 n] w1 fun e w' => e = .returned (.string ⟨(fmt10 n).toArray⟩) ∧ Below w1.heap.size w1 w' :=
  (C_calls (It n hn t) (Rel_later R h1) (Cells_one (.int _ _ _))).mono fun e w' ⟨u, x, I', ρ', σ', e1, e2, _, _, e5, _, e7⟩ => by
    subst e7; rw [VR_str e2] at e1; exact ⟨e1, e5⟩
def headT : Tr := .rd 0 (.rd 1 (.rd 5 (.rd 6 (.rd 7 (.op 2 true (.rd 3 (.rd 4 (.op 8 true (.rd 9 (.rd 10 (.op 11 false .done)))))))))))
def headS (b1 : Nat) : SZ := ⟨⟨fun b _ => b = b1, fun _ => False⟩, ⟨fun b _ => b = b1, fun _ => False⟩⟩
theorem head_ek {b1 : Nat} {w w' : World} (h : Below w.heap.size w w') (hb : b1 < w.heap.size) : Ek ⟨fun b _ => b = b1, fun _ => False⟩ w w' :=
  ⟨h.os, h.tape, h.output, h.size, fun b o e => by subst e; simp only [World.cell?, h.block _ hb], fun _ h => h.elim⟩
theorem head_ek' {B b1 : Nat} {w w' : World} (h : Below B w w') (hb : b1 < B) : Ek ⟨fun b _ => b = b1, fun _ => False⟩ w w' :=
  ⟨h.os, h.tape, h.output, h.size, fun b o e => by subst e; simp only [World.cell?, h.block _ hb], fun _ h => h.elim⟩
theorem rt_rd {P : Program} {ops : Array Oper} {Q : Act → World → Prop} {i : Nat} {t : Tr} {S : SZ} {a : Act} {w : World} {o : Oper} {v : Value} (d : Nat) (ho : ops[i]? = some o) (hg : o.guard = none ∧ o.dst = some d)
    (hv : ∀ w', Ek S.s w w' → (execOp a.eval o).run P w' = .ok (.value v) w') (h : RTree P ops Q t S (a.put (some d) v) w) : RTree P ops Q (.rd i t) S a w :=
  ⟨o, v, ho, .inl ⟨by simp [Region.wanted, hg.1], hv⟩, hg.2 ▸ h⟩
theorem rt_call {P : Program} {ops : Array Oper} {Q : Act → World → Prop} {i : Nat} {k : Bool} {t : Tr} {S : SZ} {a : Act} {w : World} {o : Oper} {f : FuncId} {args : Array Value} {R : Ending → World → Prop} (d : Nat) (ho : ops[i]? = some o) (hg : o.guard = none ∧ o.dst = some d)
    (hv : (execOp a.eval o).run P w = .ok (.enter f args) w) (hc : Calls P f args w R) (h : ∀ e w', R e w' → ∃ v, e = .returned v ∧ Ek S.z w w' ∧ Ek S.s w w' ∧ RTree P ops Q t S (a.put (some d) v) w') : RTree P ops Q (.op i k t) S a w := by
  refine ⟨o, ho, ?_⟩
  rw [if_pos (by simp [Region.wanted, hg.1]), op1, hv, hg.2]
  exact hc.mono fun e w' hr => by
    obtain ⟨v, h1, h2, h3, h4⟩ := h e w' hr
    exact ⟨v, h1, S, ⟨Sg.le.refl _, h2⟩, fun _ => ⟨Sg.le.refl _, h3⟩, h4⟩
theorem rows_at {I : Imm} {ρ : Names} {v : Int} {F : List (List Int)} {a : Option Addr} {n cap : Nat} (hv : VR I ρ (fml v F) (.agg #[.int .i64 v, .slice a n cap])) {w : World} {t : Nat} (R : Rel G I ρ ⟨t, []⟩ w) {k : Nat} {c : List Int} (h : F[k]? = some c) :
    ∃ b o y, a = some ⟨b, o, none⟩ ∧ w.cell? ⟨b, o + k, none⟩ = some y ∧ VR I noNames (row c) y := by
  generalize hu : fml v F = u at hv
  cases hv with
  | agg _ l cs h1 h2 =>
    injection hu with hu
    subst hu
    have h3 := h2 1 (rows F) (.slice a n cap) rfl rfl
    clear h2
    generalize hu : rows F = u at h3
    cases h3 with
    | lst _ sz l _ b o _ f g0 g1 g2 g3 g4 g5 =>
      injection hu with e1 e2 e3
      subst e1 e2
      have hr : (F.map row)[k]? = some (row c) := by simp [h]
      have i1 := g4 k _ hr 0 (row c) rfl
      have i2 := g5 k _ hr 0 (row c) rfl
      refine ⟨b, o, _, rfl, ?_, i2⟩
      have := (R.imm _ _ _ i1).1
      simpa using this
    | lstN => 
      injection hu with e1 e2 e3
      have : F = [] := by simpa using e2
      subst this; simp at h
    | val => unfold rows at hu; cases hu
    | any => unfold rows at hu; cases hu
    | slN => unfold rows at hu; cases hu
    | sl => unfold rows at hu; cases hu
  | _ => cases hu
abbrev prQ (p sv : Value) (n k : Nat) (c : List Int) (x0 x1 x2 x3 x5 x7 x9 x10 x11 x12 x13 x14 x15 x16 x17 x18 x19 x20 x21 x22 x23 x24 x49 : Value) : AE → Fr → H → Prop := fun e fr σ => e = .nrm ∧ ∃ t' w, fget fr 4 = .val p ∧ fget fr 25 = .val sv ∧ fget fr 26 = .int .i64 n ∧ fget fr 27 = .int .i64 k ∧ fget fr 34 = .sl 0 w 0 1 (c.length + 1) none ∧ fget fr 35 = .int .i64 ((c.length + 1 : Nat) : Int) ∧ fget fr 36 = .int .i64 0 ∧ fget fr 0 = .val x0 ∧ fget fr 1 = .val x1 ∧ fget fr 2 = .val x2 ∧ fget fr 3 = .val x3 ∧ fget fr 5 = .val x5 ∧ fget fr 7 = .val x7 ∧ fget fr 9 = .val x9 ∧ fget fr 10 = .val x10 ∧ fget fr 11 = .val x11 ∧ fget fr 12 = .val x12 ∧ fget fr 13 = .val x13 ∧ fget fr 14 = .val x14 ∧ fget fr 15 = .val x15 ∧ fget fr 16 = .val x16 ∧ fget fr 17 = .val x17 ∧ fget fr 18 = .val x18 ∧ fget fr 19 = .val x19 ∧ fget fr 20 = .val x20 ∧ fget fr 21 = .val x21 ∧ fget fr 22 = .val x22 ∧ fget fr 23 = .val x23 ∧ fget fr 24 = .val x24 ∧ fget fr 49 = .val x49 ∧ σ = ⟨t', [some (.arr w 3 (ints (c ++ [0])))]⟩
theorem put_row (hT : TabOk Tryd.prog tab) (p sv : Value) (n k t : Nat) (c : List Int) (x0 x1 x2 x3 x5 x7 x9 x10 x11 x12 x13 x14 x15 x16 x17 x18 x19 x20 x21 x22 x23 x24 x49 : Value) (hl : c.length ≤ 1000) :
    sem Tryd.prog G 50 0 (prQ p sv n k c x0 x1 x2 x3 x5 x7 x9 x10 x11 x12 x13 x14 x15 x16 x17 x18 x19 x20 x21 x22 x23 x24 x49) [.ac (AC.reg zqj_8 [31, 32, 33])] .nrm [(4, .val p), (25, .val sv), (26, .int .i64 n), (27, .int .i64 k), (6, row c), (0, .val x0), (1, .val x1), (2, .val x2), (3, .val x3), (5, .val x5), (7, .val x7), (9, .val x9), (10, .val x10), (11, .val x11), (12, .val x12), (13, .val x13), (14, .val x14), (15, .val x15), (16, .val x16), (17, .val x17), (18, .val x18), (19, .val x19), (20, .val x20), (21, .val x21), (22, .val x22), (23, .val x23), (24, .val x24), (49, .val x49)] ⟨t, []⟩ := by
  refine run_sem 1000 ?_
  simp only [row]
  simp -implicitDefEqProofs (disch := omega) only [go_sem, ↓reduceIte, reduceCtorEq, Nat.reduceEqDiff, zqj_8]
  refine call hT t_slices_Clone_int_int (c_Clone hT c (by omega)) 1000 fun u σ hu => ?_
  obtain ⟨t1, w, ht1, rfl, rfl⟩ := hu
  simp -implicitDefEqProofs (disch := omega) only [go_sem, need_of, ↓reduceIte, reduceCtorEq, Nat.reduceEqDiff, Nat.reduceLeDiff, Nat.zero_add, Nat.mul_one, Bool.not_true, Nat.le_refl, ints_length]
  exact ⟨rfl, t1 + 1, t1, rfl, rfl, rfl, rfl, rfl, rfl, rfl, rfl, rfl, rfl, rfl, rfl, rfl, rfl, rfl, rfl, rfl, rfl, rfl, rfl, rfl, rfl, rfl, rfl, rfl, rfl, rfl, rfl, rfl, rfl, by simp [ints]⟩
theorem VR_val {I : Imm} {ρ : Names} {x y : Value} (h : VR I ρ (.val x) y) : y = x := by cases h; rfl
theorem VR_int {I : Imm} {ρ : Names} {k : IntKind} {n : Int} {y : Value} (h : VR I ρ (.int k n) y) : y = .int k n := by cases h; rfl
theorem row_of {I : Imm} {ρ : Names} {t w : Nat} {zs : List Int} {fv : V} {x : Value} {W : World} (R : Rel G I ρ ⟨t, [some (.arr w 3 (ints zs))]⟩ W) (hf : fv = .sl 0 w 0 1 zs.length none) (h : VR I ρ fv x) (hz : zs ≠ []) :
    ∃ g o cap cc lo hi, x = .slice (some ⟨g, o, none⟩) zs.length cap ∧ W.heap[g]? = some (.cells cc 3 (lo, hi)) ∧ (∀ (j : Nat) (n : Int), zs[j]? = some n → cc[o + j]? = some (.int .i64 n)) ∧ blk ρ ⟨t, [some (.arr w 3 (ints zs))]⟩ 0 = some g := by
  subst hf
  have hlen : 0 < zs.length := List.length_pos_iff.2 hz
  generalize hu : V.sl 0 w 0 1 zs.length none = u at h
  cases h with
  | sl _ n v off sz len lim b o e cap h1 h2 h3 h4 =>
    cases hu
    rcases R.objs 0 _ rfl with ⟨h0, _⟩ | ⟨b', o', e', cc, lo, hi, k1, k2, k3, k4, k5, k6⟩
    · rw [h1] at h0; cases h0
    · rw [h1] at k1; cases k1
      refine ⟨b, o, cap, cc, lo, hi, rfl, k2, fun j n hj => ?_, by simp [blk, Ob.ver, h1, Loc.block]⟩
      obtain ⟨y, g1, g2, _⟩ := k6 j (.int .i64 n) (by simp [ints, hj])
      cases g2; exact g1
  | slN => injection hu; omega
  | _ => cases hu
theorem FR_of {I : Imm} {ρ : Names} {n : Nat} {a : Act} (hd : a.defers = []) (hs : a.tmps.size = n) : ∀ {fr : Fr}, (∀ p ∈ fr, VR I ρ p.2 (a.tmps.getD p.1 undef)) → FR I ρ n fr a := fun {fr} h => ⟨hd, hs, fun t => by
  induction fr with
  | nil => exact .any _ _
  | cons p fr ih =>
    obtain ⟨k, v⟩ := p
    unfold fget
    split
    · rename_i e; have := h (k, v) (by simp); subst e; exact this
    · exact ih fun q hq => h q (by simp [hq])⟩
end Go.Proofs.YtingdebioipemaaDoor
/- A formula's text, walked: the whole. -/
namespace Go.Proofs.YtingdebioipemaaDoor
open Go Go.Am Go.Cl Go.RowKit
set_option maxRecDepth 100000
variable {G : Nat → Option V}
set_option maxHeartbeats 4000000 in
theorem w_Put (hT : TabOk Tryd.prog tab) (K : BufK Tryd.prog) (It : ItoaK Tryd.prog G) (v : Int) (F : List (List Int)) (hF : F.length ≤ 1000) (hc : ∀ c ∈ F, c.length ≤ 1000) {I : Imm} {ρ : Names} {w : World} {t : Nat} (R : Rel G I ρ ⟨t, []⟩ w) (a : Option Addr) (cap : Nat)
    (hv : VR I ρ (fml v F) (.agg #[.int .i64 v, .slice a F.length cap])) (hr : right v F = true) :
    Calls Tryd.prog 22 #[.agg #[.int .i64 v, .slice a F.length cap]] w fun e w' => ∃ s, e = .returned (.tuple #[s, .int .i64 0]) ∧ w'.ownsRow (w.heap.size + 1) 5 1 s (putB v F).length (Lib.byteCells (putB v F)) ∧ Below w.heap.size w w' := by
  have hR := c_Right (P := Tryd.prog) (G := G) hT v F (by omega) (fun c h => by have := hc c h; omega)
  rw [hr] at hR
  have kR : ∀ w1, Below w.heap.size w w1 → Calls Tryd.prog 9 #[.agg #[.int .i64 v, .slice a F.length cap]] w1 fun e w' => e = .returned (.bool true) ∧ Below w1.heap.size w1 w' := fun w1 h1 =>
    (C_calls (hR t) (Rel_later R h1) (Cells_one hv)).mono fun e w' ⟨u, x, I', ρ', σ', e1, e2, _, _, e5, _, e7⟩ => by
      subst e7; rw [VR_bool e2] at e1; exact ⟨e1, e5⟩
  have hrt := right_iff.1 hr
  have hnz : ∀ c ∈ F, ∀ n ∈ c, n ≠ 0 ∧ -16777216 ≤ n ∧ n ≤ 16777216 := fun c h n hn => by
    have := hrt.2 c h n hn
    have := hrt.1
    omega
  go_enter Tryd.func22, Tryd.ntmps22
  go_wp2_with (go_at_call 9; refine (kR _ ((Below.refl _ w).alloc (Nat.le_refl _) _)).mono ?_; rintro e w1 ⟨rfl, h1⟩)
  go_wp2
  refine wp_draw (t := headT) (kd := fun i => if i = 11 then 2 else if i = 2 ∨ i = 8 then 1 else 0) (S := headS w.heap.size) (by kernel_rfl) (by kernel_rfl) ?_
  unfold headT
  have hw2 : ∃ w2, w2 = (w1.alloc (Obj.cells #[.slice none 0 0, .int .i64 0, .int .i8 0] 70)).drew := ⟨_, rfl⟩
  obtain ⟨w2, hw2⟩ := hw2
  rw [← hw2]
  have hsz1 : w1.heap.size ≥ w.heap.size + 1 := by have := h1.size; simpa using this
  have hv64 : -9223372036854775808 ≤ v ∧ v ≤ 9223372036854775807 := by have := hrt.1; omega
  have h1s : w.heap.size + 1 ≤ w1.heap.size := by have := h1.size; simpa using this
  have hBw1 : Below w.heap.size w w1 := ((Below.refl _ w).alloc (Nat.le_refl _) _).trans (h1.mono (by simp))
  have hB2 : Below w.heap.size w w2 := by rw [hw2]; exact (hBw1.alloc (by omega) _).drew
  have hf1 := fmt_len hv64
  have hf2 := fmt_len (n := (F.length : Int)) (by omega)
  have hl1 : 6 + (fmt10 v).length ≤ 9223372036854775807 := by omega
  have hl2 : 6 + (fmt10 v).length ≤ 9223372036854775806 := by omega
  have hl3 : 6 + (fmt10 v).length + 1 + (fmt10 F.length).length ≤ 9223372036854775807 := by omega
  have hl4 : 6 + (fmt10 v).length + 1 + (fmt10 F.length).length ≤ 9223372036854775806 := by omega
  have hsz2 : w2.heap.size = w1.heap.size + 1 := by rw [hw2]; simp
  have c0 : ∀ w', Ek (headS w.heap.size).s w2 w' → w'.cell? ⟨w.heap.size, 0, none⟩ = some (.int .i64 v) := fun w' hk => by
    rw [hk.cells _ _ rfl, hw2]
    show World.cell? (World.alloc w1 _) _ = _
    rw [Lib.cell_of_heap ((Below.heap_alloc w1 _ _ (show w.heap.size < w1.heap.size by omega)).trans ((h1.block _ (show w.heap.size < (w.alloc _).heap.size by simp)).trans (heap_alloc_new w _)))]
    rfl
  have c1 : ∀ w', Ek (headS w.heap.size).s w2 w' → w'.cell? ⟨w.heap.size, 1, none⟩ = some (.slice a F.length cap) := fun w' hk => by
    rw [hk.cells _ _ rfl, hw2]
    show World.cell? (World.alloc w1 _) _ = _
    rw [Lib.cell_of_heap ((Below.heap_alloc w1 _ _ (show w.heap.size < w1.heap.size by omega)).trans ((h1.block _ (show w.heap.size < (w.alloc _).heap.size by simp)).trans (heap_alloc_new w _)))]
    rfl
  refine rt_rd (v := .pointer (some ⟨w.heap.size, 0, none⟩)) 12 rfl ⟨rfl, rfl⟩ (fun w' hk => ?_) ?_
  · go_simp
  refine rt_rd (v := .int .i64 v) 13 rfl ⟨rfl, rfl⟩ (fun w' hk => ?_) ?_
  · have := c0 w' hk
    go_simp
  refine rt_rd (v := .pointer (some ⟨w.heap.size, 1, none⟩)) 17 rfl ⟨rfl, rfl⟩ (fun w' hk => ?_) ?_
  · go_simp
  refine rt_rd (v := .slice a F.length cap) 18 rfl ⟨rfl, rfl⟩ (fun w' hk => ?_) ?_
  · have := c1 w' hk
    go_simp
  refine rt_rd (v := .int .i64 F.length) 19 rfl ⟨rfl, rfl⟩ (fun w' hk => ?_) ?_
  · go_simp
  refine rt_call (f := 51) (args := #[.int .i64 v]) 14 rfl ⟨rfl, rfl⟩ (by go_simp) (itoa_calls It hv64 R hB2) (fun e w3 ⟨he, hb3⟩ => ⟨_, he, head_ek hb3 (by omega), head_ek hb3 (by omega), ?_⟩)
  refine rt_rd (v := .string (⟨#[112, 32, 99, 110, 102, 32]⟩ ++ ⟨(fmt10 v).toArray⟩)) 15 rfl ⟨rfl, rfl⟩ (fun w' hk => ?_) ?_
  · go_simp
  refine rt_rd (v := .string (⟨#[112, 32, 99, 110, 102, 32]⟩ ++ ⟨(fmt10 v).toArray⟩ ++ ⟨#[32]⟩)) 16 rfl ⟨rfl, rfl⟩ (fun w' hk => ?_) ?_
  · go_simp
  have hB3 : Below w.heap.size w w3 := hB2.trans (hb3.mono (by omega))
  refine rt_call (f := 51) (args := #[.int .i64 F.length]) 20 rfl ⟨rfl, rfl⟩ (by go_simp) (itoa_calls It (by omega) R hB3) (fun e w4 ⟨he, hb4⟩ => ⟨_, he, head_ek hb4 (by have := hb3.size; omega), head_ek hb4 (by have := hb3.size; omega), ?_⟩)
  refine rt_rd (v := .string (⟨#[112, 32, 99, 110, 102, 32]⟩ ++ ⟨(fmt10 v).toArray⟩ ++ ⟨#[32]⟩ ++ ⟨(fmt10 F.length).toArray⟩)) 21 rfl ⟨rfl, rfl⟩ (fun w' hk => ?_) ?_
  · go_simp
  refine rt_rd (v := .string (⟨#[112, 32, 99, 110, 102, 32]⟩ ++ ⟨(fmt10 v).toArray⟩ ++ ⟨#[32]⟩ ++ ⟨(fmt10 F.length).toArray⟩ ++ ⟨#[10]⟩)) 22 rfl ⟨rfl, rfl⟩ (fun w' hk => ?_) ?_
  · go_simp
  have hS : (⟨#[112, 32, 99, 110, 102, 32]⟩ ++ ⟨(fmt10 v).toArray⟩ ++ ⟨#[32]⟩ ++ ⟨(fmt10 F.length).toArray⟩ ++ ⟨#[10]⟩ : ByteArray) = ⟨(headB v F).toArray⟩ := by
    apply ByteArray.ext
    simp [headB, ByteArray.data_append]
  rw [hS]
  have hI4 : Lib.IsBuffer 70 5 (w.heap.size + 1) w1.heap.size [] w4 := by
    have hf1 : Lib.IsBuffer 70 5 (w.heap.size + 1) w1.heap.size [] w2 := by
      rw [hw2]
      exact ⟨h1s, .slice none 0 0, 0, heap_alloc_new w1 _, World.ownsRow_nil _ _ _ _, by simp [Value.ownBlock]⟩
    exact (hf1.old hb3).old hb4
  refine rt_call (f := 50) (args := #[.pointer (some ⟨w1.heap.size, 0, none⟩), .string ⟨(headB v F).toArray⟩]) 23 rfl ⟨rfl, rfl⟩ (by go_simp) (K.ws _ _ _ _ _ hI4 (by have := hb3.size; have := hb4.size; omega) (by simp) (by have := headB_len hv64 hF; simp only [List.length_nil]; show 0 + (headB v F).toArray.size ≤ _; simp only [List.size_toArray]; omega)) (fun e w5 ⟨he, hI5, hb5, hk5⟩ => ⟨_, he, head_ek' hb5 (by omega), head_ek' hb5 (by omega), ?_⟩)
  subst he
  simp only [RTree]
  have hB5 : Below w.heap.size w w5 := (hB3.trans (hb4.mono (by have := hb3.size; omega))).trans (hb5.mono (by omega))
  have hc5 : w5.cell? ⟨w.heap.size, 1, none⟩ = some (.slice a F.length cap) := c1 w5 ((head_ek hb3 (by omega)).trans ((head_ek hb4 (by have := hb3.size; omega)).trans (head_ek' hb5 (by omega))))
  rw [List.nil_append] at hI5
  have hI5' : Lib.IsBuffer 70 5 (w.heap.size + 1) w1.heap.size (Lib.byteCells (headB v F ++ clB (F.take 0))) w5 := by simpa [clB] using hI5
  have hb1 := h1.size
  clear hI5 hI4 hb5 hk5 hb4 hb3 c0 c1 hB3 hw2 hB2 kR hR
  go_wp2
  go_loopw [27] (fun i wr => ∃ k : Nat, i = .int .i64 k ∧ k ≤ F.length ∧ Below w.heap.size w wr ∧ Lib.IsBuffer 70 5 (w.heap.size + 1) w1.heap.size (Lib.byteCells (headB v F ++ clB (F.take k))) wr) (fun i _ => F.length - (intOf i).toNat)
  case atStart => exact ⟨0, rfl, by omega, hB5, hI5'⟩
  case round =>
    obtain ⟨k, rfl, hk, hB, hI⟩ := hrel
    by_cases hlt : k < F.length
    · obtain ⟨c, hkc⟩ : ∃ c, F[k]? = some c := ⟨_, List.getElem?_eq_getElem hlt⟩
      obtain ⟨b0, o0, y, rfl, hcell, hy⟩ := rows_at hv (Rel_later R hB) hkc
      go_upto_region 8 with fail
      have hcl := hc c (List.mem_of_getElem? hkc)
      refine wp_W (n := 50) (base := 0) (M := fun _ => false) (dd := d_clause_Put) (ac := AC.reg zqj_8 [31, 32, 33]) (by kernel_rfl) (put_row (G := G) hT (.pointer (some ⟨w1.heap.size, 0, none⟩)) (.slice (some ⟨b0, o0, none⟩) F.length cap) F.length k t c (.agg #[.int .i64 v, .slice (some ⟨b0, o0, none⟩) F.length cap]) (.pointer (some ⟨w.heap.size, 0, none⟩)) (.slice none 0 0) (.int .i64 0) (undef) (undef) (.agg #[.int .i64 v, .slice (some ⟨b0, o0, none⟩) F.length cap]) (.bool true) (.bool false) (.pointer (some ⟨w.heap.size, 0, none⟩)) (.int .i64 v) (.string ⟨(fmt10 v).toArray⟩) (.string (⟨#[112, 32, 99, 110, 102, 32]⟩ ++ ⟨(fmt10 v).toArray⟩)) (.string (⟨#[112, 32, 99, 110, 102, 32]⟩ ++ ⟨(fmt10 v).toArray⟩ ++ ⟨#[32]⟩)) (.pointer (some ⟨w.heap.size, 1, none⟩)) (.slice (some ⟨b0, o0, none⟩) F.length cap) (.int .i64 F.length) (.string ⟨(fmt10 F.length).toArray⟩) (.string (⟨#[112, 32, 99, 110, 102, 32]⟩ ++ ⟨(fmt10 v).toArray⟩ ++ ⟨#[32]⟩ ++ ⟨(fmt10 F.length).toArray⟩)) (.string ⟨(headB v F).toArray⟩) (.tuple #[.int .i64 (headB v F).length, .nilIface]) (.pointer (some ⟨w.heap.size, 1, none⟩)) (undef) hcl) (Rel_later R hB)
        (FR_of (n := 50) rfl (by rfl) (fun p hp => ?_)) (Nat.zero_le _) (fun e I' ρ' fr' σ' a' w' q1 q2 q3 q4 q5 => ?_)
      · simp only [List.mem_cons, List.not_mem_nil, or_false] at hp
        rcases hp with rfl | rfl | rfl | rfl | rfl | rfl | rfl | rfl | rfl | rfl | rfl | rfl | rfl | rfl | rfl | rfl | rfl | rfl | rfl | rfl | rfl | rfl | rfl | rfl | rfl | rfl | rfl | rfl
        · exact .val _ _
        · exact .val _ _
        · exact .int _ _ _
        · exact .int _ _ _
        · exact hy.mono (Imm.le.refl _) (fun _ _ _ h => by cases h)
        all_goals exact .val _ _
      obtain ⟨rfl, t', wv, f4, f25, f26, f27, f34, f35, f36, f0, f1, f2, f3, f5, f7, f9, f10, f11, f12, f13, f14, f15, f16, f17, f18, f19, f20, f21, f22, f23, f24, f49, rfl⟩ := q5
      have hbw : Below wr.heap.size wr w' := ⟨q3.os, q3.tape, q3.output, q3.size, fun j hj => q3.keep j hj fun n _ e => by simp [blk] at e⟩
      obtain ⟨g0, o2, cap2, cc, lo, hi, hx34, hcc, hcells, hblk⟩ := row_of q1 (by rw [f34]; simp) (q2.vals 34) (by simp)
      have hsz := q2.size
      have g4 := VR_val (f4 ▸ q2.vals 4)
      have g25 := VR_val (f25 ▸ q2.vals 25)
      have g26 := VR_int (f26 ▸ q2.vals 26)
      have g27 := VR_int (f27 ▸ q2.vals 27)
      have g35 := VR_int (f35 ▸ q2.vals 35)
      have g36 := VR_int (f36 ▸ q2.vals 36)
      have gv0 := VR_val (f0 ▸ q2.vals 0)
      have gv1 := VR_val (f1 ▸ q2.vals 1)
      have gv2 := VR_val (f2 ▸ q2.vals 2)
      have gv3 := VR_val (f3 ▸ q2.vals 3)
      have gv5 := VR_val (f5 ▸ q2.vals 5)
      have gv7 := VR_val (f7 ▸ q2.vals 7)
      have gv9 := VR_val (f9 ▸ q2.vals 9)
      have gv10 := VR_val (f10 ▸ q2.vals 10)
      have gv11 := VR_val (f11 ▸ q2.vals 11)
      have gv12 := VR_val (f12 ▸ q2.vals 12)
      have gv13 := VR_val (f13 ▸ q2.vals 13)
      have gv14 := VR_val (f14 ▸ q2.vals 14)
      have gv15 := VR_val (f15 ▸ q2.vals 15)
      have gv16 := VR_val (f16 ▸ q2.vals 16)
      have gv17 := VR_val (f17 ▸ q2.vals 17)
      have gv18 := VR_val (f18 ▸ q2.vals 18)
      have gv19 := VR_val (f19 ▸ q2.vals 19)
      have gv20 := VR_val (f20 ▸ q2.vals 20)
      have gv21 := VR_val (f21 ▸ q2.vals 21)
      have gv22 := VR_val (f22 ▸ q2.vals 22)
      have gv23 := VR_val (f23 ▸ q2.vals 23)
      have gv24 := VR_val (f24 ▸ q2.vals 24)
      have gv49 := VR_val (f49 ▸ q2.vals 49)
      have hdf := q2.defers
      have hlit := lit_of a'.tmps
      rw [hsz] at hlit
      generalize (fun j => a'.tmps.getD j undef) = f at hlit
      have hlit2 : a'.tmps = #[f 0, f 1, f 2, f 3, f 4, f 5, f 6, f 7, f 8, f 9, f 10, f 11, f 12, f 13, f 14, f 15, f 16, f 17, f 18, f 19, f 20, f 21, f 22, f 23, f 24, f 25, f 26, f 27, f 28, f 29, f 30, f 31, f 32, f 33, f 34, f 35, f 36, f 37, f 38, f 39, f 40, f 41, f 42, f 43, f 44, f 45, f 46, f 47, f 48, f 49] := hlit.trans rfl
      have e4 : f 4 = .pointer (some ⟨w1.heap.size, 0, none⟩) := by rw [← g4, hlit2]; rfl
      have e25 : f 25 = .slice (some ⟨b0, o0, none⟩) F.length cap := by rw [← g25, hlit2]; rfl
      have e26 : f 26 = .int .i64 F.length := by rw [← g26, hlit2]; rfl
      have e27 : f 27 = .int .i64 k := by rw [← g27, hlit2]; rfl
      have e34 : f 34 = .slice (some ⟨g0, o2, none⟩) (c ++ [0]).length cap2 := by rw [← hx34, hlit2]; rfl
      have e35 : f 35 = .int .i64 ((c.length + 1 : Nat) : Int) := by rw [← g35, hlit2]; rfl
      have e36 : f 36 = .int .i64 0 := by rw [← g36, hlit2]; rfl
      have e0 : f 0 = .agg #[.int .i64 v, .slice (some ⟨b0, o0, none⟩) F.length cap] := by rw [← gv0, hlit2]; rfl
      have e1 : f 1 = .pointer (some ⟨w.heap.size, 0, none⟩) := by rw [← gv1, hlit2]; rfl
      have e2 : f 2 = .slice none 0 0 := by rw [← gv2, hlit2]; rfl
      have e3 : f 3 = .int .i64 0 := by rw [← gv3, hlit2]; rfl
      have e5 : f 5 = undef := by rw [← gv5, hlit2]; rfl
      have e7 : f 7 = undef := by rw [← gv7, hlit2]; rfl
      have e9 : f 9 = .agg #[.int .i64 v, .slice (some ⟨b0, o0, none⟩) F.length cap] := by rw [← gv9, hlit2]; rfl
      have e10 : f 10 = .bool true := by rw [← gv10, hlit2]; rfl
      have e11 : f 11 = .bool false := by rw [← gv11, hlit2]; rfl
      have e12 : f 12 = .pointer (some ⟨w.heap.size, 0, none⟩) := by rw [← gv12, hlit2]; rfl
      have e13 : f 13 = .int .i64 v := by rw [← gv13, hlit2]; rfl
      have e14 : f 14 = .string ⟨(fmt10 v).toArray⟩ := by rw [← gv14, hlit2]; rfl
      have e15 : f 15 = .string (⟨#[112, 32, 99, 110, 102, 32]⟩ ++ ⟨(fmt10 v).toArray⟩) := by rw [← gv15, hlit2]; rfl
      have e16 : f 16 = .string (⟨#[112, 32, 99, 110, 102, 32]⟩ ++ ⟨(fmt10 v).toArray⟩ ++ ⟨#[32]⟩) := by rw [← gv16, hlit2]; rfl
      have e17 : f 17 = .pointer (some ⟨w.heap.size, 1, none⟩) := by rw [← gv17, hlit2]; rfl
      have e18 : f 18 = .slice (some ⟨b0, o0, none⟩) F.length cap := by rw [← gv18, hlit2]; rfl
      have e19 : f 19 = .int .i64 F.length := by rw [← gv19, hlit2]; rfl
      have e20 : f 20 = .string ⟨(fmt10 F.length).toArray⟩ := by rw [← gv20, hlit2]; rfl
      have e21 : f 21 = .string (⟨#[112, 32, 99, 110, 102, 32]⟩ ++ ⟨(fmt10 v).toArray⟩ ++ ⟨#[32]⟩ ++ ⟨(fmt10 F.length).toArray⟩) := by rw [← gv21, hlit2]; rfl
      have e22 : f 22 = .string ⟨(headB v F).toArray⟩ := by rw [← gv22, hlit2]; rfl
      have e23 : f 23 = .tuple #[.int .i64 (headB v F).length, .nilIface] := by rw [← gv23, hlit2]; rfl
      have e24 : f 24 = .pointer (some ⟨w.heap.size, 1, none⟩) := by rw [← gv24, hlit2]; rfl
      have e49 : f 49 = undef := by rw [← gv49, hlit2]; rfl
      clear hlit hsz g4 g25 g26 g27 g35 g36 f4 f25 f26 f27 f34 f35 f36 q4 f0 f1 f2 f3 f5 f7 f9 f10 f11 f12 f13 f14 f15 f16 f17 f18 f19 f20 f21 f22 f23 f24 f49 gv0 gv1 gv2 gv3 gv5 gv7 gv9 gv10 gv11 gv12 gv13 gv14 gv15 gv16 gv17 gv18 gv19 gv20 gv21 gv22 gv23 gv24 gv49
      obtain ⟨T, ds⟩ := a'
      simp only at hlit2 hdf
      subst hlit2 hdf
      rw [e4, e25, e26, e27, e34, e35, e36, e0, e1, e2, e3, e5, e7, e9, e10, e11, e12, e13, e14, e15, e16, e17, e18, e19, e20, e21, e22, e23, e24, e49]
      clear e4 e25 e26 e27 e34 e35 e36 hx34 e0 e1 e2 e3 e5 e7 e9 e10 e11 e12 e13 e14 e15 e16 e17 e18 e19 e20 e21 e22 e23 e24 e49
      have hB' : Below w.heap.size w w' := hB.trans (hbw.mono (by have := hB.size; omega))
      have hI' := hI.old hbw
      have hg0 : wr.heap.size ≤ g0 := by
        rcases q3.owned 0 g0 (Nat.zero_le _) hblk with h | ⟨_, _, h⟩
        · exact h
        · simp [blk] at h
      have hwr : w.heap.size + 1 < wr.heap.size := by have := hI.lt; omega
      have hlt1 := hI.lt
      have hbz0 := hbw.size
      clear q1 q2 q3 hbw
      obtain ⟨wo, rfl⟩ : ∃ wo : World, wo = wr := ⟨_, rfl⟩
      simp only [List.length_append, List.length_cons, List.length_nil] at *
      go_wp2
      go_loopw [36] (fun i wq => ∃ m : Nat, i = .int .i64 m ∧ m ≤ c.length + 1 ∧ Below w.heap.size w wq ∧ wq.heap[g0]? = some (.cells cc 3 (lo, hi)) ∧ w.heap.size + 1 < wq.heap.size ∧ Lib.IsBuffer 70 5 (w.heap.size + 1) w1.heap.size (Lib.byteCells (headB v F ++ clB (F.take k) ++ inB c m)) wq) (fun i _ => c.length + 1 - (intOf i).toNat)
      case atStart => exact ⟨0, rfl, by omega, hB', hcc, by omega, by simpa [inB, litsB] using hI'⟩
      case round =>
        obtain ⟨m, rfl, hm, hBq, hcq, hsq, hIq⟩ := hrel
        by_cases hmlt : m < c.length + 1
        · obtain ⟨n, hn⟩ : ∃ n, (c ++ [0])[m]? = some n := ⟨_, List.getElem?_eq_getElem (by simpa using hmlt)⟩
          have hcn := hcells m n hn
          have hcell2 : wr.cell? ⟨g0, o2 + m, none⟩ = some (.int .i64 n) := by simp [World.cell?, hcq, hcn]
          have hgq : g0 < wr.heap.size := (Array.getElem?_eq_some_iff.1 hcq).1
          have hne : some g0 ≠ some w1.heap.size := fun e => by injection e with e; omega
          have hty : ∀ (x : Array Value) (fz : Nat × Nat), Obj.cells cc 3 (lo, hi) ≠ Obj.cells x 5 fz := fun x fz e => by injection e with _ e _; cases e
          by_cases hmc : m < c.length
          · have hcn' : c[m]? = some n := by rwa [List.getElem?_append_left hmc] at hn
            have hnb := hnz c (List.mem_of_getElem? hkc) n (List.mem_of_getElem? hcn')
            have hlen := lens hv64 hF hc hnz hkc (m := m) (by omega)
            have hfn := fmt_len (n := n) (by omega)
            go_wp2_with (go_at_call 51; refine (itoa_calls (n := n) It (by omega) R hBq).mono ?_; rintro e wz ⟨rfl, hbz⟩; refine Hid.out ?_)
            refine Lib.hid ?_
            have hIz := hIq.old hbz
            go_wp2_with (go_at_call 50; refine (K.ws (w.heap.size + 1) w1.heap.size _ ⟨(fmt10 n).toArray⟩ wz hIz (by have := hbz.size; omega) (Lib.byteCells_one _) (by rw [Lib.byteCells_length]; show _ + (fmt10 n).toArray.size ≤ _; simp only [List.size_toArray]; omega)).mono ?_; rintro e wy ⟨rfl, hIy, hby, hky⟩; refine Hid.out ?_)
            refine Lib.hid ?_
            have hn0 : ¬ n = 0 := by omega
            rw [← Lib.byteCells_append] at hIy
            have hI2 : Lib.IsBuffer 70 5 (w.heap.size + 1) w1.heap.size _ wy := hIy
            go_wp2_with (go_at_call 52; refine (K.wb (w.heap.size + 1) w1.heap.size _ 32 wy hIy (by have := hbz.size; have := hby.size; omega) (Lib.byteCells_one _) (by rw [Lib.byteCells_length, List.length_append]; omega)).mono ?_; rintro e wx ⟨rfl, hIx, hbx, hkx⟩)
            go_roundw
            case rel =>
              have s1 := hbz.size
              have s2 := hby.size
              have s3 := hbx.size
              have c1 := (hbz.block g0 hgq).trans hcq
              have c2 := hky g0 _ c1 hne hty
              (repeat apply Exists.intro (α := Value))
              refine And.intro ?_ rfl
              refine ⟨m + 1, rfl, by omega, ((hBq.trans (hbz.mono (by omega))).trans (hby.mono (by omega))).trans (hbx.mono (by omega)), hkx g0 _ c2 hne hty, by omega, ?_⟩
              rw [inB_step hmc hcn', ← List.append_assoc, ← List.append_assoc, byteCells_snoc1]
              exact hIx
            case measure => simp [intOf]; omega
          · have hmc' : m = c.length := by omega
            subst hmc'
            have hn0 : n = 0 := by rw [List.getElem?_append_right (Nat.le_refl _)] at hn; simpa using hn.symm
            subst hn0
            have hlen := lens hv64 hF hc hnz hkc (m := c.length) (by omega)
            have hs0 : (fmt10 0).toArray.size = 1 := by rw [fmt_zero]; rfl
            go_wp2_with (go_at_call 51; refine (itoa_calls (n := 0) It (by omega) R hBq).mono ?_; rintro e wz ⟨rfl, hbz⟩; refine Hid.out ?_)
            refine Lib.hid ?_
            have hIz := hIq.old hbz
            go_wp2_with (go_at_call 50; refine (K.ws (w.heap.size + 1) w1.heap.size _ ⟨(fmt10 0).toArray⟩ wz hIz (by have := hbz.size; omega) (Lib.byteCells_one _) (by rw [Lib.byteCells_length]; show _ + (fmt10 0).toArray.size ≤ _; rw [hs0]; omega)).mono ?_; rintro e wy ⟨rfl, hIy, hby, hky⟩)
            go_roundw
            case rel =>
              have s1 := hbz.size
              have s2 := hby.size
              have c1 := (hbz.block g0 hgq).trans hcq
              (repeat apply Exists.intro (α := Value))
              refine And.intro ?_ rfl
              refine ⟨c.length + 1, rfl, by omega, (hBq.trans (hbz.mono (by omega))).trans (hby.mono (by omega)), hky g0 _ c1 hne hty, by omega, ?_⟩
              rw [← Lib.byteCells_append] at hIy
              rw [inB_last, ← List.append_assoc]
              rw [fmt_zero] at hIy
              exact hIy
            case measure => simp [intOf]
        · have hmc : m = c.length + 1 := by omega
          subst hmc
          have hlen := lens hv64 hF hc hnz hkc (m := c.length + 1) (by omega)
          go_wp2_with (go_at_call 52; refine (K.wb (w.heap.size + 1) w1.heap.size _ 10 wr hIq (by omega) (Lib.byteCells_one _) (by rw [Lib.byteCells_length]; omega)).mono ?_; rintro e wx ⟨rfl, hIx, hbx, hkx⟩)
          go_roundw
          case rel =>
            refine ⟨k + 1, rfl, by omega, hBq.trans (hbx.mono (by omega)), ?_⟩
            rw [clB_snoc hkc, ← List.append_assoc, inB_all, ← List.append_assoc, byteCells_snoc1]
            exact hIx
          case measure => simp [intOf]; omega
    · have hk' : k = F.length := by omega
      subst hk'
      go_wp2_with (go_at_call 53; refine (K.by_ _ _ _ _ hI).mono ?_; rintro e wz ⟨sv, rfl, hown, nq, rfl⟩)
      go_wp2
      go_ret2
      rw [List.take_length, Lib.byteCells_length] at hown
      exact ⟨sv, rfl, hown, hB.trans ⟨rfl, rfl, rfl, Nat.le_refl _, fun _ _ => rfl⟩⟩
end Go.Proofs.YtingdebioipemaaDoor
/- A formula's text: the contract. -/
namespace Go.Proofs.YtingdebioipemaaDoor
open Go Go.Am Go.Cl Go.RowKit
set_option maxRecDepth 100000
variable {G : Nat → Option V}
def bytesV (l : List UInt8) : List V := l.map fun b => .int .u8 b.toNat
theorem bytesV_nameless : ∀ l, namelessL (bytesV l) = true
  | [] => rfl
  | _ :: l => by simpa [bytesV, namelessL, nameless] using bytesV_nameless l
theorem fml_val {I : Imm} {ρ : Names} {v : Int} {F : List (List Int)} {x : Value} (h : VR I ρ (fml v F) x) : ∃ a cap, x = .agg #[.int .i64 v, .slice a F.length cap] := by
  generalize hu : fml v F = u at h
  cases h with
  | agg _ l cs h1 h2 =>
    injection hu with hu
    subst hu
    have hs : cs.size = 2 := h1.symm
    obtain ⟨y, z, rfl⟩ : ∃ y z, cs = #[y, z] := ⟨cs[0], cs[1], by
      apply Array.ext
      · simp [hs]
      · intro j h1 h2
        have : j = 0 ∨ j = 1 := by omega
        rcases this with rfl | rfl <;> rfl⟩
    have h3 := VR_int (h2 0 (.int .i64 v) y rfl rfl)
    have h4 := h2 1 (rows F) z rfl rfl
    subst h3
    clear h2
    generalize hu : rows F = u at h4
    cases h4 with
    | lst _ sz l _ b o cap f g0 =>
      injection hu with e1 e2 e3
      subst e1 e2
      exact ⟨some ⟨b, o, none⟩, cap, by simp⟩
    | lstN _ _ _ a cap =>
      injection hu with e1 e2 e3
      have : F = [] := by simpa using e2
      subst this
      exact ⟨a, cap, rfl⟩
    | _ => unfold rows at hu; cases hu
  | _ => cases hu
theorem c_Put_raw (hT : TabOk Tryd.prog tab) (K : BufK Tryd.prog) (It : ItoaK Tryd.prog G) (v : Int) (F : List (List Int)) (hF : F.length ≤ 1000) (hc : ∀ c ∈ F, c.length ≤ 1000) (hr : right v F = true) (t : Nat) :
    C Tryd.prog G 0 n_clause_Put [fml v F] ⟨t, []⟩ fun u σ => u = .tup [.sl 0 t 0 1 (putB v F).length none, .int .i64 0] ∧ σ = ⟨t + 1, [some (.arr t 5 (bytesV (putB v F)))]⟩ := by
  intro I ρ w xs R hb hcs
  have hx1 : xs.size = 1 := hcs.1.symm
  obtain ⟨x, rfl⟩ : ∃ x, xs = #[x] := ⟨xs[0], by
    apply Array.ext
    · simp [hx1]
    · intro j h1 h2
      have : j = 0 := by omega
      subst this; rfl⟩
  have hv := hcs.2 0 _ x rfl rfl
  obtain ⟨a, cap, rfl⟩ := fml_val hv
  refine (w_Put hT K It v F hF hc R a cap hv hr).mono fun e w' ⟨s, he, hown, hbel⟩ => ?_
  have hpos : 0 < (putB v F).length := by simp [putB, headB]
  obtain ⟨_, ⟨_, h0⟩ | ⟨g, cp, cur, rfl, hg, hh, h1, h2, h3, h4⟩⟩ := hown
  · omega
  have hle := Names.add_le (l := .at g 0 cp) (R.fresh_none 0)
  have hup : Rel G I (ρ.add 0 t (.at g 0 cp)) ⟨t + 1, [some (.arr t 5 (bytesV (putB v F)))]⟩ w' ∧ Step 0 I ρ ⟨t, []⟩ w I (ρ.add 0 t (.at g 0 cp)) ⟨t + 1, [some (.arr t 5 (bytesV (putB v F)))]⟩ w' := by
    refine R.upd (base := 0) (k := 0) (ob := .arr t 5 (bytesV (putB v F))) (Nat.le_refl _) rfl
      (fun m hm => by cases m with
        | zero => exact absurd rfl hm
        | succ m => simp) (Nat.le_succ _) hle (fun m u l h => ?_) hbel.os hbel.tape hbel.output hbel.size (fun b hb _ => hbel.block b hb)
      (.inr ⟨g, 0, cp, cur, 0, 0, Names.add_self _ _ _ _, hh, ?_, ?_, fun j _ _ h => by omega, fun j u hu => ?_⟩) (fun b hb => ?_)
    · rcases Names.of_add h with h | ⟨rfl, rfl⟩
      · exact .inl h
      · exact .inr ⟨rfl, rfl, Nat.lt_succ_self _⟩
    · simp [bytesV]; omega
    · simp at h3; omega
    · simp only [bytesV, List.getElem?_map, Option.map_eq_some_iff] at hu
      obtain ⟨z, hz, rfl⟩ := hu
      have hj := (List.getElem?_eq_some_iff.1 hz).1
      refine ⟨.int .u8 z.toNat, ?_, .int _ _ _, rfl⟩
      have := congrArg (fun l => l[j]?) h4
      simp only [List.getElem?_take, Lib.byteCells, List.getElem?_map, hz] at this
      rw [if_pos (by omega)] at this
      simpa using this
    · left
      simp [Ob.ver, Names.add_self, Loc.block] at hb
      omega
  exact ⟨_, _, I, _, _, he, VR_two (.sl _ 0 t 0 1 _ none g 0 cp cp (Names.add_self _ _ _ _) h1 (fun m h => by cases h) (fun _ => by omega)) (.int _ _ _), hup.1, hup.2, Nat.zero_le _, rfl, rfl⟩
theorem c_Put (hT : TabOk Tryd.prog tab) (K : BufK Tryd.prog) (It : ItoaK Tryd.prog G) (v : Int) (F : List (List Int)) (hF : F.length ≤ 1000) (hc : ∀ c ∈ F, c.length ≤ 1000) :
    Am.Pure Tryd.prog G n_clause_Put [fml v F] fun u => u = if right v F = true then .tup [.lst 1 (bytesV (putB v F)) false, .int .i64 0] else .tup [.lst 0 [] true, .int .i64 2] := by
  intro t
  cases hr : right v F with
  | true =>
    refine C_freezeO (c_Put_raw hT K It v F hF hc hr t) fun u σ hu => .inr ?_
    obtain ⟨rfl, rfl⟩ := hu
    refine ⟨0, t, 5, _, Nat.zero_le _, rfl, bytesV_nameless _, ?_⟩
    have hl : (bytesV (putB v F)).length = (putB v F).length := by simp [bytesV]
    simp [frzV, frzL, rowsV, nameless, namelessL, hl]
    rw [← hl, List.take_length]
  | false =>
    have hR := c_Right (P := Tryd.prog) (G := G) hT v F (by omega) (fun c h => by have := hc c h; omega)
    simp only [fml, rows] at hR ⊢
    have hnF : namelessL [V.agg [V.int .i64 v, V.lst 1 (F.map row) false]] = true := by simp [namelessL, nameless]
    rw [hr] at hR
    refine C_keep 0 (Nat.zero_le _) (C_tab hT t_clause_Put (by simp [clause_Put]) (W_run 40 ?_))
    simp -implicitDefEqProofs (disch := omega) only [go_sem, ↓reduceIte, reduceCtorEq, Nat.reduceAdd, Nat.reduceEqDiff, Nat.zero_add, Nat.le_refl, clause_Put, zqj_0, zqj_1, zqj_2, zqj_3, zqj_4, zqj_5, zqj_6, zqj_7, zqj_8, zqj_9, zqj_10, zqj_11, zqj_12, zqj_13, zqj_14, zqj_15, zqj_16, zqj_17]
    refine callPS hT t_clause_Right hR hnF 40 ?_
    simp -implicitDefEqProofs (disch := omega) only [go_sem, ↓reduceIte, reduceCtorEq, Nat.reduceEqDiff, Nat.zero_add, Bool.not_false, Nat.zero_le]
end Go.Proofs.YtingdebioipemaaDoor
