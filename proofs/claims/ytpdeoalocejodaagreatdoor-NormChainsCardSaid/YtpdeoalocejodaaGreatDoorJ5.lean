/- The document's operations are the program's. -/
import Derived.Test.YtpdeoalocejodaaGreatDoorJ4
import Derived.Test.YtpdeoalocejodaaGreatDoorJ3
/- The document's operations are the program's. -/
namespace Go.Proofs.YtpdeoalocejodaaGreatDoor
open Go Go.Am
set_option maxRecDepth 100000
set_option maxHeartbeats 1000000
variable {P : Program} {G : Nat → Option V}
theorem and63I (x : Int) : andI .i64 x 63 = x % 64 := and_low .i64 6 _ 63 rfl (by decide)
end Go.Proofs.YtpdeoalocejodaaGreatDoor
/- What operations make: plain laws. -/
namespace Go.Proofs.YtpdeoalocejodaaGreatDoor
open Go Go.Am
set_option maxRecDepth 100000
set_option maxHeartbeats 1000000
abbrev bv (a : Int) : BitVec 64 := BitVec.ofInt 64 a
theorem wI_nat (v : BitVec 64) : IntKind.i64.wrap (v.toNat : Int) = v.toInt := by
  have h := v.isLt
  rw [IntKind.wrap_i64, BitVec.toInt_eq_toNat_cond]
  split <;> omega
theorem toInt_bv {a : Int} (h : i64 a) : (bv a).toInt = a := by
  unfold i64 at h
  rw [BitVec.toInt_ofInt, Int.bmod_def]
  have e : (((2 : Nat) ^ 64 : Nat) : Int) = 18446744073709551616 := rfl
  simp only [e]
  split <;> omega
theorem bv_toInt (v : BitVec 64) : bv v.toInt = v := by simp [bv]
theorem andI_bv (a b : Int) : andI .i64 a b = (bv a &&& bv b).toInt := wI_nat _
theorem orI_bv (a b : Int) : orI .i64 a b = (bv a ||| bv b).toInt := wI_nat _
theorem xorI_bv (a b : Int) : xorI .i64 a b = (bv a ^^^ bv b).toInt := wI_nat _
theorem bv_inj {a b : Int} (ha : i64 a) (hb : i64 b) (h : bv a = bv b) : a = b := by rw [← toInt_bv ha, ← toInt_bv hb, h]
theorem do1 (a b : Int) : doW 1 a b = IntKind.i64.wrap (a + b) := rfl
theorem do2 (a b : Int) : doW 2 a b = IntKind.i64.wrap (a - b) := rfl
theorem do3 (a b : Int) : doW 3 a b = IntKind.i64.wrap (a * b) := rfl
theorem do8 (a b : Int) : doW 8 a b = (bv a &&& bv b).toInt := andI_bv a b
theorem do9 (a b : Int) : doW 9 a b = (bv a ||| bv b).toInt := orI_bv a b
theorem do10 (a b : Int) : doW 10 a b = (bv a ^^^ bv b).toInt := xorI_bv a b
theorem do14 (a b : Int) : doW 14 a b = if a < b then 1 else 0 := rfl
theorem do15 (a b : Int) : doW 15 a b = if IntKind.u64.wrap a < IntKind.u64.wrap b then 1 else 0 := rfl
theorem do16 (a b : Int) : doW 16 a b = if a = b then 1 else 0 := rfl
theorem wI_id {a : Int} (h : i64 a) : IntKind.i64.wrap a = a := wrap_i64 h.1 h.2
def swapsW (op : Int) : Bool := decide (op = 1 ∨ op = 3 ∨ op = 8 ∨ op = 9 ∨ op = 10 ∨ op = 16)
def groupsW (op : Int) : Bool := decide (op = 1 ∨ op = 3 ∨ op = 8 ∨ op = 9 ∨ op = 10)
def keepsW (op : Int) : Option Int :=
  if op = 1 ∨ op = 2 ∨ op = 5 ∨ op = 7 ∨ op = 9 ∨ op = 10 ∨ op = 11 ∨ op = 12 ∨ op = 13 then some 0
  else if op = 3 ∨ op = 4 ∨ op = 6 then some 1 else if op = 8 then some (-1) else none
theorem do_swap {op a b : Int} (h : swapsW op = true) : doW op a b = doW op b a := by
  simp only [swapsW, decide_eq_true_eq] at h
  rcases h with rfl | rfl | rfl | rfl | rfl | rfl
  · rw [do1, do1, Int.add_comm]
  · rw [do3, do3, Int.mul_comm]
  · rw [do8, do8, BitVec.and_comm]
  · rw [do9, do9, BitVec.or_comm]
  · rw [do10, do10, BitVec.xor_comm]
  · rw [do16, do16]; simp only [eq_comm]
theorem do_group {op a b c : Int} (h : groupsW op = true) : doW op (doW op a b) c = doW op a (doW op b c) := by
  simp only [groupsW, decide_eq_true_eq] at h
  rcases h with rfl | rfl | rfl | rfl | rfl
  · simp only [do1]
    exact wI_cg ((cg.add (cg_wI _) (cg.refl _)).trans (by rw [Int.add_assoc]; exact (cg.add (cg.refl _) (cg_wI _)).symm))
  · simp only [do3]
    exact wI_cg ((cg.mul (cg_wI _) (cg.refl _)).trans (by rw [Int.mul_assoc]; exact (cg.mul (cg.refl _) (cg_wI _)).symm))
  · simp only [do8, bv_toInt, BitVec.and_assoc]
  · simp only [do9, bv_toInt, BitVec.or_assoc]
  · simp only [do10, bv_toInt, BitVec.xor_assoc]
theorem bv0 : bv 0 = 0#64 := by decide
theorem bvm1 : bv (-1) = BitVec.allOnes 64 := by decide
theorem wU_1 : IntKind.u64.wrap 1 = 1 := by decide
theorem wU_0 : IntKind.u64.wrap 0 = 0 := by decide
theorem shl0 (a : Int) : doW 11 a 0 = IntKind.i64.wrap a := by
  show IntKind.i64.wrap (a * 2 ^ min (andI .i64 0 63).toNat 64) = _
  rw [show (2 : Int) ^ min (andI .i64 0 63).toNat 64 = 1 by decide, Int.mul_one]
theorem do_keeps {op a c : Int} (ha : i64 a) (h : keepsW op = some c) : doW op a c = a := by
  unfold keepsW at h
  split at h
  · rename_i h1
    cases h
    rcases h1 with rfl | rfl | rfl | rfl | rfl | rfl | rfl | rfl | rfl
    · rw [do1, Int.add_zero, wI_id ha]
    · rw [do2, Int.sub_zero, wI_id ha]
    · show remS a 0 = a
      rw [remS, if_pos rfl]
    · show remN a 0 = a
      rw [remN, if_pos rfl]
    · rw [do9, bv0, BitVec.or_zero, toInt_bv ha]
    · rw [do10, bv0, BitVec.xor_zero, toInt_bv ha]
    · rw [shl0, wI_id ha]
    · show IntKind.i64.wrap ((IntKind.u64.wrap a).fdiv (2 ^ min (andI .i64 0 63).toNat 64)) = a
      rw [show (2 : Int) ^ min (andI .i64 0 63).toNat 64 = 1 by decide, Int.fdiv_one]
      exact (wI_cg (cg_wU a)).trans (wI_id ha)
    · show a.fdiv (2 ^ min (andI .i64 0 63).toNat 64) = a
      rw [show (2 : Int) ^ min (andI .i64 0 63).toNat 64 = 1 by decide, Int.fdiv_one]
  · split at h
    · rename_i h1
      cases h
      rcases h1 with rfl | rfl | rfl
      · rw [do3, Int.mul_one, wI_id ha]
      · show divS a 1 = a
        rw [divS, if_neg (by decide), if_neg (by decide), Int.tdiv_one, wI_id ha]
      · show divN a 1 = a
        rw [divN, if_neg (by decide), wU_1, Int.tdiv_one]
        exact (wI_cg ((cg_wU _).trans (cg_wU a))).trans (wI_id ha)
    · split at h
      · rename_i h1
        cases h
        rw [h1, do8, bvm1, BitVec.and_allOnes, toInt_bv ha]
      · cases h
theorem do_fixed0 {op a : Int} (h : op = 3 ∨ op = 8 ∨ op = 15) : doW op a 0 = 0 := by
  rcases h with rfl | rfl | rfl
  · rw [do3, Int.mul_zero]; rfl
  · rw [do8, bv0, BitVec.and_zero]; rfl
  · rw [do15, wU_0, if_neg (by have := (wU_rg a).1; omega)]
theorem do_or_m1 (a : Int) : doW 9 a (-1) = -1 := by
  rw [do9, bvm1, BitVec.or_allOnes]; decide
theorem do_rem1 {op a : Int} (h : op = 5 ∨ op = 7) : doW op a 1 = 0 := by
  rcases h with rfl | rfl
  · show remS a 1 = 0
    rw [remS, if_neg (by decide), if_neg (by decide), Int.tmod_one]
  · show remN a 1 = 0
    rw [remN, if_neg (by decide), wU_1, Int.tmod_one]; rfl
theorem do_same {op a : Int} (ha : i64 a) : (op = 2 ∨ op = 10 ∨ op = 14 ∨ op = 15 → doW op a a = 0) ∧ (op = 16 → doW op a a = 1) ∧ (op = 8 ∨ op = 9 → doW op a a = a) := by
  refine ⟨?_, ?_, ?_⟩
  · rintro (rfl | rfl | rfl | rfl)
    · rw [do2, Int.sub_self]; rfl
    · rw [do10, BitVec.xor_self]; rfl
    · rw [do14, if_neg (by omega)]
    · rw [do15, if_neg (by omega)]
  · rintro rfl; rw [do16, if_pos rfl]
  · rintro (rfl | rfl)
    · rw [do8, BitVec.and_self, toInt_bv ha]
    · rw [do9, BitVec.or_self, toInt_bv ha]
theorem do_sub {a c : Int} : doW 2 a c = doW 1 a (IntKind.i64.wrap (-c)) := by
  rw [do2, do1]
  exact wI_cg (by rw [Int.sub_eq_add_neg]; exact cg.add (cg.refl _) (cg_wI _).symm)
theorem do_eq_add {y d c : Int} (hy : i64 y) (hc : i64 c) : doW 16 (doW 1 y d) c = doW 16 y (IntKind.i64.wrap (c - d)) := by
  rw [do16, do16, do1]
  unfold i64 at *
  have e : IntKind.i64.wrap (y + d) = c ↔ y = IntKind.i64.wrap (c - d) := by
    rw [IntKind.wrap_i64, IntKind.wrap_i64]; omega
  simp only [e]
theorem do_eq_sub {y z : Int} (hy : i64 y) (hz : i64 z) : doW 16 (doW 2 y z) 0 = doW 16 y z := by
  rw [do16, do16, do2]
  unfold i64 at *
  have e : IntKind.i64.wrap (y - z) = 0 ↔ y = z := by rw [IntKind.wrap_i64]; omega
  simp only [e]
theorem toInt_i64 (v : BitVec 64) : i64 v.toInt := by rw [← wI_nat]; exact wrap_rg _
theorem do_eq_xor {y d c : Int} (hy : i64 y) (hc : i64 c) : doW 16 (doW 10 y d) c = doW 16 y (doW 10 c d) := by
  rw [do16, do16, do10, do10]
  have e : (bv y ^^^ bv d).toInt = c ↔ y = (bv c ^^^ bv d).toInt := by
    constructor
    · intro h
      refine bv_inj hy (toInt_i64 _) ?_
      rw [bv_toInt, ← h, bv_toInt, BitVec.xor_assoc, BitVec.xor_self, BitVec.xor_zero]
    · intro h
      refine bv_inj (toInt_i64 _) hc ?_
      rw [bv_toInt, h, bv_toInt, BitVec.xor_assoc, BitVec.xor_self, BitVec.xor_zero]
  simp only [e]
theorem do_eq_xor0 {y z : Int} (hy : i64 y) (hz : i64 z) : doW 16 (doW 10 y z) 0 = doW 16 y z := by
  rw [do_eq_xor hy (by unfold i64; omega), do10, bv0, BitVec.zero_xor, toInt_bv hz]
theorem do_ltu1 (a : Int) (ha : i64 a) : doW 15 a 1 = doW 16 a 0 := by
  rw [do15, do16, wU_1]
  unfold i64 at ha
  have e : IntKind.u64.wrap a < 1 ↔ a = 0 := by rw [wrapU_eq]; omega
  simp only [e]
theorem do_ltu0 (y : Int) (hy : i64 y) : doW 15 0 y = doW 16 (doW 16 y 0) 0 := by
  rw [do15, do16, do16, wU_0]
  unfold i64 at hy
  have e : 0 < IntKind.u64.wrap y ↔ ¬ y = 0 := by rw [wrapU_eq]; omega
  by_cases h : y = 0
  · simp [h, wU_0]
  · rw [if_pos (e.2 h), if_neg h, if_pos rfl]
theorem do_mask {op a c : Int} (h : op = 12 ∨ op = 13) : doW op a c = doW op a (c % 64) := by
  have e : andI .i64 (c % 64) 63 = andI .i64 c 63 := by rw [and63I, and63I]; omega
  rcases h with rfl | rfl
  · show IntKind.i64.wrap ((IntKind.u64.wrap a).fdiv (2 ^ min (andI .i64 c 63).toNat 64)) = IntKind.i64.wrap ((IntKind.u64.wrap a).fdiv (2 ^ min (andI .i64 (c % 64) 63).toNat 64))
    rw [e]
  · show a.fdiv (2 ^ min (andI .i64 c 63).toNat 64) = a.fdiv (2 ^ min (andI .i64 (c % 64) 63).toNat 64)
    rw [e]
theorem do_shl {a c : Int} : doW 11 a c = doW 3 a (IntKind.i64.wrap (2 ^ (c % 64).toNat)) := by
  show IntKind.i64.wrap (a * 2 ^ min (andI .i64 c 63).toNat 64) = _
  rw [and63I, Nat.min_eq_left (by omega), do3]
  exact wI_cg (cg.mul (cg.refl _) (cg_wI _).symm)
def powW (c : Int) : Option Nat := (List.range 64).find? fun k => decide (IntKind.u64.wrap c = 2 ^ k)
theorem powW_some {c : Int} {k : Nat} (h : powW c = some k) : k < 64 ∧ IntKind.u64.wrap c = 2 ^ k := by
  have h1 := List.find?_some h
  have h2 := List.mem_of_find?_eq_some h
  simp at h1 h2
  exact ⟨h2, h1⟩
theorem umod_pow {a : Int} {k : Nat} (hk : k < 64) : IntKind.u64.wrap a % 2 ^ k = a % 2 ^ k := by
  rw [wrapU_eq]
  refine Int.emod_emod_of_dvd a ⟨2 ^ (64 - k), ?_⟩
  rw [← Int.pow_add, show k + (64 - k) = 64 by omega]; rfl
theorem do_divU {a c : Int} {k : Nat} (h : powW c = some k) : doW 6 a c = doW 12 a k := by
  obtain ⟨hk, hc⟩ := powW_some h
  have hp := pow_pos2 k
  have hc0 : c ≠ 0 := by
    intro e; rw [e, wU_0] at hc; omega
  show divN a c = IntKind.i64.wrap ((IntKind.u64.wrap a).fdiv (2 ^ min (andI .i64 k 63).toNat 64))
  have e : (andI .i64 (k : Int) 63).toNat = k := by rw [and63I]; omega
  rw [divN, if_neg hc0, hc, e, Nat.min_eq_left (by omega), Int.tdiv_eq_ediv_of_nonneg (wU_rg a).1, Int.fdiv_eq_ediv_of_nonneg _ (by omega)]
  exact wI_cg (cg_wU _)
theorem pow_pred {c : Int} {k : Nat} (hc : i64 c) (h : powW c = some k) : IntKind.i64.wrap (c - 1) = 2 ^ k - 1 := by
  obtain ⟨hk, hcp⟩ := powW_some h
  have hp := pow_pos2 k
  have hp2 := pow_le64 (k := k + 1) (by omega)
  rw [Int.pow_succ] at hp2
  rw [wrapU_eq] at hcp
  unfold i64 at hc
  rw [IntKind.wrap_i64]
  omega
theorem do_remU {a c : Int} {k : Nat} (ha : i64 a) (hc : i64 c) (h : powW c = some k) : doW 7 a c = doW 8 a (IntKind.i64.wrap (c - 1)) := by
  obtain ⟨hk, hcp⟩ := powW_some h
  have hp := pow_pos2 k
  have hp2 := pow_le64 (k := k + 1) (by omega)
  rw [Int.pow_succ] at hp2
  have hc0 : c ≠ 0 := by
    intro e; rw [e, wU_0] at hcp; omega
  rw [pow_pred hc h]
  show remN a c = andI .i64 a (2 ^ k - 1)
  have e : andI .i64 a (2 ^ k - 1) = a % 2 ^ k := and_low .i64 k a _ rfl hk
  have hm := umod_pow (a := a) hk
  have h0 := Int.emod_nonneg a (show (2 : Int) ^ k ≠ 0 by omega)
  have h1 := Int.emod_lt_of_pos a hp
  rw [e, remN, if_neg hc0, hcp, Int.tmod_eq_emod_of_nonneg (wU_rg a).1, hm]
  exact wI_id (by unfold i64; omega)
def two (v : Int) : Prop := v = 0 ∨ v = 1
theorem two_cmp {op a b : Int} (h : op = 14 ∨ op = 15 ∨ op = 16) : two (doW op a b) := by
  rcases h with rfl | rfl | rfl
  · rw [do14]; split <;> simp [two]
  · rw [do15]; split <;> simp [two]
  · rw [do16]; split <;> simp [two]
theorem two_and {v c : Int} (h : two v) : doW 8 v c = if c % 2 = 1 then v else 0 := by
  rw [do_swap (by decide)]
  rcases h with rfl | rfl
  · rw [do_fixed0 (by omega)]; split <;> rfl
  · have e : doW 8 c 1 = c % 2 := and_low .i64 1 c 1 rfl (by decide)
    rw [e]; split <;> omega
theorem two_eq1 {v : Int} (h : two v) : doW 16 v 1 = v := by
  rcases h with rfl | rfl <;> rfl
theorem two_eqc {v c : Int} (h : two v) (h0 : c ≠ 0) (h1 : c ≠ 1) : doW 16 v c = 0 := by
  rw [do16, if_neg]
  rcases h with rfl | rfl
  · exact fun e => h0 e.symm
  · exact fun e => h1 e.symm
theorem two_not {v : Int} (h : two v) : doW 16 v 0 = doW 10 v 1 := by
  rcases h with rfl | rfl <;> decide
theorem two_xor {v c : Int} (h : two v) : doW 10 v c = doW 10 (doW 16 v 0) (doW 10 c 1) := by
  rw [two_not h]
  simp only [do10, bv_toInt]
  congr 1
  rw [BitVec.xor_assoc, BitVec.xor_comm (bv 1), BitVec.xor_assoc, BitVec.xor_self, BitVec.xor_zero]
theorem two_eqeq {x : Int} (h : two x) : doW 16 (doW 16 x 0) 0 = x := by
  rcases h with rfl | rfl <;> rfl
theorem do_i64 {op a b : Int} (ha : i64 a) (hb : i64 b) : i64 (doW op a b) := doW_i64 ha hb
end Go.Proofs.YtpdeoalocejodaaGreatDoor
/- Terms made plain: what the program makes, and that it keeps values. -/
namespace Go.Proofs.YtpdeoalocejodaaGreatDoor
open Go Go.Am
set_option maxRecDepth 100000
set_option maxHeartbeats 1000000
def inG (L : List Nd) (x : Int) : Prop := 0 ≤ x ∧ x < L.length
instance {L : List Nd} {x : Int} : Decidable (inG L x) := by unfold inG; infer_instance
def numI (L : List Nd) (x : Int) : Option Int := if inG L x ∧ (nd L x).kind = 1 then some (nd L x).n else none
def booI (L : List Nd) (x : Int) : Bool := decide (inG L x ∧ (((nd L x).kind = 4 ∧ ((nd L x).op = 14 ∨ (nd L x).op = 15 ∨ (nd L x).op = 16)) ∨ ((nd L x).kind = 1 ∧ ((nd L x).n = 0 ∨ (nd L x).n = 1))))
def ofI (L : List Nd) (x op : Int) : Option (Int × Int) := if inG L x ∧ (nd L x).kind = 4 ∧ (nd L x).op = op then some ((nd L x).x, (nd L x).y) else none
def tailI (L : List Nd) (x op : Int) : Option (Int × Int) := (ofI L x op).bind fun p => (numI L p.2).map fun c => (p.1, c)
abbrev GR := Int × List Nd
abbrev BinT := List Nd → Int → Int → Int → Option GR
def numN (L : List Nd) (n : Int) : GR := addN L ⟨1, n, 0, 0, 0, 0⟩
def withN (bin : BinT) (L : List Nd) (op x n : Int) : Option GR := bin (numN L n).2 op x (numN L n).1
def sameR (L : List Nd) (op x : Int) : GR :=
  if op = 2 ∨ op = 10 ∨ op = 14 ∨ op = 15 then numN L 0 else if op = 16 then numN L 1 else if op = 8 ∨ op = 9 then (x, L) else (-1, L)
def fixedR (L : List Nd) (op x c : Int) : GR :=
  if keepsW op = some c then (x, L)
  else if (op = 3 ∨ op = 8 ∨ op = 15) ∧ c = 0 then numN L 0
  else if op = 9 ∧ c = -1 then numN L (-1)
  else if (op = 5 ∨ op = 7) ∧ c = 1 then numN L 0
  else (-1, L)
def movedR (bin : BinT) (L : List Nd) (op x c : Int) : Option GR :=
  if op = 2 then withN bin L 1 x (IntKind.i64.wrap (-c))
  else if op = 11 then withN bin L 3 x (IntKind.i64.wrap (2 ^ (c % 64).toNat))
  else if (op = 12 ∨ op = 13) ∧ c ≠ c % 64 then withN bin L op x (c % 64)
  else if op = 6 ∧ (powW c).isSome = true then withN bin L 12 x ((powW c).getD 0 : Nat)
  else if op = 7 ∧ (powW c).isSome = true then withN bin L 8 x (IntKind.i64.wrap (c - 1))
  else if op = 15 ∧ c = 1 then withN bin L 16 x 0
  else some (-1, L)
def truthR (bin : BinT) (L : List Nd) (op b c : Int) : Option GR :=
  if booI L b = false then some (-1, L)
  else if (op = 8 ∧ c % 2 = 1) ∨ (op = 16 ∧ c = 1) then some (b, L)
  else if op = 8 ∨ (op = 16 ∧ c ≠ 0) then some (numN L 0)
  else if op = 10 ∧ c % 2 = 1 then (withN bin L 16 b 0).bind fun r => withN bin r.2 10 r.1 (doW 10 c 1)
  else match tailI L b 16 with
    | some (x, d) => if op = 16 ∧ d = 0 ∧ booI L x = true then some (x, L) else some (-1, L)
    | none => some (-1, L)
def groupR (bin : BinT) (L : List Nd) (op x c : Int) : Option GR :=
  match tailI L x op with
  | some (y, d) => if groupsW op = true then withN bin L op y (doW op d c) else some (-1, L)
  | none => some (-1, L)
def equalR (bin : BinT) (L : List Nd) (op x c : Int) : Option GR :=
  if op ≠ 16 then some (-1, L) else
  match tailI L x 1 with
  | some (y, d) => withN bin L 16 y (IntKind.i64.wrap (c - d))
  | none => match tailI L x 10 with
    | some (y, d) => withN bin L 16 y (doW 10 c d)
    | none => match ofI L x 10 with
      | some (y, z) => if c = 0 then bin L 16 y z else some (-1, L)
      | none => match ofI L x 2 with
        | some (y, z) => if c = 0 then bin L 16 y z else some (-1, L)
        | none => some (-1, L)
def thenR (r : Option GR) (k : List Nd → Option GR) : Option GR := r.bind fun r => if r.1 ≠ -1 then some r else k r.2
def numberR (bin : BinT) (L : List Nd) (op x c : Int) : Option GR :=
  thenR (some (fixedR L op x c)) fun L => thenR (movedR bin L op x c) fun L => thenR (truthR bin L op x c) fun L => thenR (groupR bin L op x c) fun L => equalR bin L op x c
def ruleR (bin : BinT) (L : List Nd) (op x y : Int) (p q : Option Int) : Option GR :=
  if x = y then some (sameR L op x)
  else match q with
    | some b => numberR bin L op x b
    | none => if p = some 0 ∧ op = 15 then (bin L 16 y x).bind fun r => bin r.2 16 r.1 x else some (-1, L)
def turnR (bin : BinT) (L : List Nd) (op x y : Int) (p q : Option Int) : Option GR := thenR (ruleR bin L op x y p q) fun L => some (addN L ⟨4, 0, 0, op, x, y⟩)
def binR (bin : BinT) (L : List Nd) (op x y : Int) : Option GR :=
  match numI L x, numI L y with
  | some a, some b => some (numN L (doW op a b))
  | p, q => if swapsW op = true ∧ (p.isSome = true ∨ (q = none ∧ y < x)) then turnR bin L op y x q p else turnR bin L op x y p q
def binF : Nat → BinT
  | 0 => fun _ _ _ _ => none
  | f + 1 => binR (binF f)
-- values
theorem nd_ext {L L' : List Nd} (h : L <+: L') {x : Int} (hx : inG L x) : inG L' x ∧ nd L' x = nd L x := by
  obtain ⟨r, rfl⟩ := h
  unfold inG at *
  refine ⟨by simp; omega, ?_⟩
  unfold nd
  rw [List.getD_eq_getElem?_getD, List.getD_eq_getElem?_getD, List.getElem?_append_left (by omega)]
theorem val_ext {S : List Int} {C : List Cl} {L L' : List Nd} (h : L <+: L') {x : Int} (hx : inG L x) : val S C L' x = val S C L x := by
  obtain ⟨r, rfl⟩ := h
  unfold inG at hx
  unfold val
  have := vals_pre (S := S) (C := C) (L := L ++ r) (n := L.length) (i := x.toNat) (by omega) (by simp)
  rw [List.take_left] at this
  exact this.symm
theorem idx_get {d : Nd} : ∀ {L : List Nd} {i : Nat}, idx d L = some i → L[i]? = some d
  | e :: L, i, h => by
    unfold idx at h
    split at h
    · rename_i he; cases h; rw [he]; rfl
    · cases hi : idx d L with
      | none => rw [hi] at h; cases h
      | some j =>
        rw [hi] at h
        simp only [Option.map_some, Option.some.injEq] at h
        subst h
        simpa using idx_get hi
theorem add_ok {L : List Nd} {d : Nd} (hm : d.may L.length = true) : inG (addN L d).2 (addN L d).1 ∧ nd (addN L d).2 (addN L d).1 = d := by
  unfold addN
  rw [if_pos hm]
  cases h : idx d L with
  | some i =>
    have hg := idx_get h
    have hlt := (List.getElem?_eq_some_iff.1 hg).1
    refine ⟨⟨?_, ?_⟩, ?_⟩
    · show (0 : Int) ≤ (i : Int); omega
    · show (i : Int) < (L.length : Int); omega
    · show nd L (i : Int) = d
      simp [nd, List.getD_eq_getElem?_getD, hg]
  | none =>
    refine ⟨⟨?_, ?_⟩, ?_⟩
    · show (0 : Int) ≤ (L.length : Int); omega
    · show (L.length : Int) < ((L ++ [d]).length : Int); simp; omega
    · show nd (L ++ [d]) (L.length : Int) = d
      simp [nd, List.getD_eq_getElem?_getD]
variable {S : List Int} {C : List Cl}
structure Made1 (S : List Int) (C : List Cl) (L : List Nd) (w : Int) (r : GR) : Prop where
  pre : L <+: r.2
  ok : okN r.2
  val : r.1 ≠ -1 → inG r.2 r.1 ∧ val S C r.2 r.1 = w
theorem Made1.none {L : List Nd} (hok : okN L) (w : Int) : Made1 S C L w (-1, L) := ⟨List.prefix_rfl, hok, fun h => absurd rfl h⟩
theorem Made1.here {L : List Nd} (hok : okN L) {x w : Int} (hx : inG L x) (h : Go.Proofs.YtpdeoalocejodaaGreatDoor.val S C L x = w) : Made1 S C L w (x, L) := ⟨List.prefix_rfl, hok, fun _ => ⟨hx, h⟩⟩
theorem num_may (n : Int) (k : Nat) : Nd.may ⟨1, n, 0, 0, 0, 0⟩ k = true := by simp [Nd.may]
theorem num_made {L : List Nd} (hok : okN L) {n : Int} (hn : i64 n) : Made1 S C L n (numN L n) ∧ (numN L n).1 ≠ -1 := by
  obtain ⟨h1, h2⟩ := add_ok (num_may n L.length)
  have hok2 : okN (numN L n).2 := okN_addN hok hn (show i64 0 by unfold i64; omega)
  refine ⟨⟨addN_pre _ _, hok2, fun _ => ⟨h1, ?_⟩⟩, ?_⟩
  · refine (val_eq hok2.wf (fit_ok hok2) h1.1 h1.2).trans ?_
    show stepV S C _ (nd (addN L _).2 (addN L _).1) = n
    rw [h2]
    simp [stepV]
  · have := h1.1
    show (addN L _).1 ≠ -1
    omega
theorem numI_ok {L : List Nd} (hok : okN L) {x n : Int} (h : numI L x = some n) : val S C L x = n ∧ i64 n := by
  unfold numI at h
  split at h
  · rename_i hc
    cases h
    refine ⟨?_, nd_i64 hok x⟩
    rw [val_eq hok.wf (fit_ok hok) hc.1.1 hc.1.2, stepV, if_pos hc.2]
  · cases h
theorem ofI_ok {L : List Nd} (hok : okN L) {x op u v : Int} (h : ofI L x op = some (u, v)) : inG L u ∧ inG L v ∧ u < x ∧ v < x ∧ val S C L x = doW op (val S C L u) (val S C L v) := by
  unfold ofI at h
  split at h
  · rename_i hc
    simp only [Option.some.injEq, Prod.mk.injEq] at h
    obtain ⟨rfl, rfl⟩ := h
    obtain ⟨hx, hk, ho⟩ := hc
    have hp := pts_lt hok.wf hx.1 hx.2
    have hpt : pts L x = [(nd L x).x, (nd L x).y] := by
      show (nd L x).parts = _
      simp [Nd.parts, hk]
    rw [hpt] at hp
    have h1 := hp (nd L x).x (by simp)
    have h2 := hp (nd L x).y (by simp)
    unfold inG at *
    refine ⟨by omega, by omega, h1.2, h2.2, ?_⟩
    rw [val_eq hok.wf (fit_ok hok) hx.1 hx.2, stepV]
    simp [hk, ho]
  · cases h
theorem tailI_ok {L : List Nd} (hok : okN L) {x op y d : Int} (h : tailI L x op = some (y, d)) : inG L y ∧ y < x ∧ i64 d ∧ val S C L x = doW op (val S C L y) d := by
  unfold tailI at h
  cases ho : ofI L x op with
  | none => rw [ho] at h; cases h
  | some p =>
    obtain ⟨u, v⟩ := p
    rw [ho] at h
    cases hn : numI L v with
    | none => simp [hn] at h
    | some c =>
      simp only [Option.bind_some, hn, Option.map_some, Option.some.injEq, Prod.mk.injEq] at h
      obtain ⟨rfl, rfl⟩ := h
      obtain ⟨h1, h2, h3, h4, h5⟩ := ofI_ok (S := S) (C := C) hok ho
      obtain ⟨n1, n2⟩ := numI_ok (S := S) (C := C) hok hn
      exact ⟨h1, h3, n2, by rw [h5, n1]⟩
theorem booI_ok {L : List Nd} (hok : okN L) {x : Int} (h : booI L x = true) : inG L x ∧ two (val S C L x) := by
  simp only [booI, decide_eq_true_eq] at h
  obtain ⟨hx, h⟩ := h
  refine ⟨hx, ?_⟩
  rw [val_eq hok.wf (fit_ok hok) hx.1 hx.2, stepV]
  rcases h with ⟨hk, ho⟩ | ⟨hk, hn⟩
  · simp only [hk]
    exact two_cmp ho
  · rw [if_pos hk]; exact hn
end Go.Proofs.YtpdeoalocejodaaGreatDoor
