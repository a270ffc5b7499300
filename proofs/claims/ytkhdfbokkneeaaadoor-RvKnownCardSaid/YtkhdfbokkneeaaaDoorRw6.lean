/- The document's word: walked. -/
import Derived.Test.YtkhdfbokkneeaaaDoorRw5
namespace Go.Proofs.YtkhdfbokkneeaaaDoor
open Go Go.Am Go.Rv
set_option maxRecDepth 100000
variable {P : Program} {G : Nat → Option V}

def Forms (f : Int) : Prop := f = 82 ∨ f = 87 ∨ f = 73 ∨ f = 72 ∨ f = 83 ∨ f = 66 ∨ f = 85 ∨ f = 74 ∨ f = 69 ∨ f = 0
theorem c_has (hT : TabOk P tab) (f : Int) (hf : Forms f) : Pure P G n_proofmarkref10_has [.int .u8 f] fun v => v = .tup [.bool (hasRd f), .bool (hasR1 f), .bool (hasR2 f)] := by
  intro t
  rcases hf with rfl | rfl | rfl | rfl | rfl | rfl | rfl | rfl | rfl | rfl <;>
  · refine C_keep 0 (Nat.zero_le _) (C_tab hT t_proofmarkref10_has (by simp [proofmarkref10_has]) (W_run 1000 ?_))
    simp -implicitDefEqProofs (disch := omega) only [go_sem, ↓reduceIte, reduceCtorEq, Nat.reduceEqDiff, Int.reduceEq, decide_true, decide_false, Nat.le_refl, beq_self_eq_true, proofmarkref10_has, proofmarkref10_has_r0, proofmarkref10_has_r1, proofmarkref10_has_r2, proofmarkref10_has_r3, proofmarkref10_has_r4, proofmarkref10_has_r5, proofmarkref10_has_r6, proofmarkref10_has_r7, proofmarkref10_has_r8, proofmarkref10_has_r9, proofmarkref10_has_r10, proofmarkref10_has_r11, proofmarkref10_has_r12, proofmarkref10_has_r13, proofmarkref10_has_r14, hasRd, hasR1, hasR2, Int.reduceBEq]

theorem c_field (hT : TabOk P tab) (w : Int) (a m : Nat) (hw : u32 w) (ha : a ≤ 31) (hm : m ≤ 30) : Pure P G n_proofmarkref10_field [.int .u32 w, .int .i64 a, .int .i64 m] fun v => v = .int .u32 (fld w a m) := by
  intro t
  refine C_keep 0 (Nat.zero_le _) (C_tab hT t_proofmarkref10_field (by simp [proofmarkref10_field]) (W_run 1000 ?_))
  simp -implicitDefEqProofs (disch := omega) only [go_sem, need_of, ↓reduceIte, reduceCtorEq, Nat.reduceAdd, Nat.reduceEqDiff, Nat.zero_add, Nat.le_refl, proofmarkref10_field, proofmarkref10_field_r0, proofmarkref10_field_r1]
  exact congrArg (V.int .u32) (bits_fld hw ha hm)

theorem tmod_zero (n k : Int) : (n.tmod k == 0) = decide (n % k = 0) := by
  rw [Bool.eq_iff_iff, beq_iff_eq, decide_eq_true_eq, ← Int.dvd_iff_tmod_eq_zero, ← Int.dvd_iff_emod_eq_zero]
theorem c_room (hT : TabOk P tab) (f n : Int) (hf : Forms f) : Pure P G n_proofmarkref10_room [.int .u8 f, .int .i64 n] fun v => v = .bool (room f n) := by
  intro t
  have e1 := tmod_zero n 2
  have e2 := tmod_zero n 4096
  rcases hf with rfl | rfl | rfl | rfl | rfl | rfl | rfl | rfl | rfl | rfl <;>
  · refine C_keep 0 (Nat.zero_le _) (C_tab hT t_proofmarkref10_room (by simp [proofmarkref10_room]) (W_run 1000 ?_))
    simp -implicitDefEqProofs (disch := omega) only [go_sem, ↓reduceIte, reduceCtorEq, Nat.reduceAdd, Nat.reduceEqDiff, Int.reduceEq, Nat.zero_add, Nat.le_refl, ge_iff_le, beq_self_eq_true, proofmarkref10_room, proofmarkref10_room_r0, proofmarkref10_room_r1, proofmarkref10_room_r2, proofmarkref10_room_r3, proofmarkref10_room_r4, proofmarkref10_room_r5, proofmarkref10_room_r6, proofmarkref10_room_r7, proofmarkref10_room_r8, proofmarkref10_room_r9, proofmarkref10_room_r10, proofmarkref10_room_r11, proofmarkref10_room_r12, proofmarkref10_room_r13, proofmarkref10_room_r14, proofmarkref10_room_r15, room, e1, e2, Int.reduceBEq, or_true, or_false]
    try simp only [V.bool.injEq]
    try grind

def rrOf (op : Int) : List V := if 1 ≤ op ∧ op ≤ 65 then rrC (T.getD (op.toNat - 1) ⟨0, [], 0, 0, 0⟩) else rrC ⟨0, [], 0, 0, 0⟩
theorem c_rrow (hT : TabOk P tab) (op : Int) (h0 : 0 ≤ op) (h1 : op ≤ 255) : Pure P G0 n_proofmarkref10_row [.int .u8 op] fun v => v = .agg (rrOf op) := by
  intro t
  have hl : (T.map fun r => V.agg (rrC r)).length = 65 := by rw [List.length_map, T_len]
  refine C_keep 0 (Nat.zero_le _) (C_tab hT t_proofmarkref10_row (by simp [proofmarkref10_row]) (W_run 1000 ?_))
  simp -implicitDefEqProofs (disch := omega) only [go_sem, ↓reduceIte, reduceCtorEq, proofmarkref10_row, proofmarkref10_row_r0, proofmarkref10_row_r1, proofmarkref10_row_r2, proofmarkref10_row_r3, proofmarkref10_row_r4]
  refine callP hT t_proofmarkref10_rows (c_rows hT) rfl 1000 fun v hv => ?_
  subst hv
  simp -implicitDefEqProofs (disch := omega) only [go_sem, ↓reduceIte, reduceCtorEq, Nat.reduceAdd, Nat.reduceEqDiff, Nat.zero_add, Bool.not_false, Nat.le_refl, Nat.zero_le, gt_iff_lt, hl]
  have e1 : IntKind.i64.wrap op = op := wrap_i64 (by omega) (by omega)
  rw [e1]
  refine ⟨fun h => ?_, fun h => ⟨fun h2 => ?_, fun h2 => ?_⟩⟩
  · unfold rrOf; rw [if_neg (by omega)]; rfl
  · unfold rrOf; rw [if_neg (by omega)]; rfl
  · have e2 : IntKind.u8.wrap (op - 1) = op - 1 := wrap_id _ (by simp [IntKind.min, IntKind.signed]; omega) (by simp [IntKind.max, IntKind.signed, IntKind.bits]; omega)
    have e3 : (op - 1).toNat = op.toNat - 1 := by omega
    obtain ⟨r, hk⟩ : ∃ r, T[op.toNat - 1]? = some r := ⟨_, List.getElem?_eq_getElem (by rw [T_len]; omega)⟩
    have hg : (T.map fun r => V.agg (rrC r)).getD (op.toNat - 1) .any = V.agg (rrC r) := by rw [List.getD_eq_getElem?_getD, List.getElem?_map, hk]; rfl
    have hr : rrOf op = rrC r := by unfold rrOf; rw [if_pos (by omega), List.getD_eq_getElem?_getD, hk]; rfl
    rw [e2, e3, hg, hr]
    simp -implicitDefEqProofs (disch := omega) only [go_sem, Nat.reduceAdd, Nat.zero_add, Nat.le_refl, rrC, show op.toNat - 1 < 65 from by omega]
end Go.Proofs.YtkhdfbokkneeaaaDoor
