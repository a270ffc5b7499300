/- Terms made plain: what is made in a graph that has it already. -/
import Derived.Test.YtpdeoalocejodaaGreatDoorJ11
/- Terms made plain: what is made in a graph that has it already. -/
namespace Go.Proofs.YtpdeoalocejodaaGreatDoor
open Go Go.Am
set_option maxRecDepth 100000
set_option maxHeartbeats 1000000
theorem add_here {M : List Nd} (h1 : One M) {x : Int} (hx : inG M x) (hm : (nd M x).may M.length = true) : addN M (nd M x) = (x, M) := by
  unfold addN
  rw [if_pos hm]
  have hg := nd_at hx
  obtain ⟨i, hi⟩ := Option.isSome_iff_exists.1 (idx_mem (List.mem_of_getElem? hg))
  rw [hi]
  have hgi := idx_get hi
  have hlt := (List.getElem?_eq_some_iff.1 hgi).1
  have e : nd M (i : Int) = nd M x := by
    have : M[((i : Nat) : Int).toNat]? = some (nd M x) := hgi
    simp [nd, List.getD_eq_getElem?_getD, hgi]
  have : (i : Int) = x := one_eq h1 ⟨by omega, by omega⟩ hx e
  simp only [this]
theorem withN_inv {f : Nat} {M : List Nd} (hok : okN M) {op x n i : Int} (hx : inG M x) (ho : 1 ≤ op ∧ op ≤ 16) (hn : i64 n) (h : withN (binF f) M op x n = some (i, M)) : ∃ z, numI M z = some n ∧ binF f M op x z = some (i, M) := by
  obtain ⟨h1, h2, h3, h4⟩ := numN_get M n
  have hok2 : okN (numN M n).2 := okN_addN hok hn (show i64 0 by unfold i64; omega)
  have hk := (keep_nil f _ _ _ _ _ hok2 (nd_ext h3 hx).1 h1 ho h).1.pre
  have e := pre_eq hk h3
  unfold withN at h
  rw [e] at h h2
  exact ⟨_, h2, h⟩
def Ec (M : List Nd) (op x c i : Int) : Prop := ∃ z, numI M z = some c ∧ Bn M op x z i
theorem Ec.of {M : List Nd} {op x z c i : Int} (hz : numI M z = some c) (h : Bn M op x z i) : Ec M op x c i := ⟨z, hz, h⟩
theorem Ec.fn {M : List Nd} (hok : okN M) (h1 : One M) {op x c i j : Int} (h : Ec M op x c i) (h' : Ec M op x c j) : i = j := by
  obtain ⟨z, hz, hb⟩ := h
  obtain ⟨w, hw, hb'⟩ := h'
  rw [num_uniq hok h1 hw hz] at hb'
  exact hb.fn hb'
theorem Ec.withN {f : Nat} {M : List Nd} (hok : okN M) {op x n i : Int} (hx : inG M x) (ho : 1 ≤ op ∧ op ≤ 16) (hn : i64 n) (h : Go.Proofs.YtpdeoalocejodaaGreatDoor.withN (binF f) M op x n = some (i, M)) : Ec M op x n i := by
  obtain ⟨z, hz, hb⟩ := withN_inv hok hx ho hn h
  exact ⟨z, hz, f, hb⟩
theorem num_there {M : List Nd} {c i : Int} (h : numN M c = (i, M)) : numI M i = some c := by
  have := (numN_get M c).2.1
  rw [h] at this
  exact this
theorem bn_const {M : List Nd} {op x y a b i : Int} (hx : numI M x = some a) (hy : numI M y = some b) (h : Bn M op x y i) : numI M i = some (doW op a b) := by
  obtain ⟨f, hf⟩ := h
  cases f with
  | zero => cases hf
  | succ f =>
    unfold binF binR at hf
    rw [hx, hy] at hf
    simp only [Option.some.injEq] at hf
    exact num_there hf
theorem Ec.const {M : List Nd} {op x a c i : Int} (hx : numI M x = some a) (h : Ec M op x c i) : numI M i = some (doW op a c) := by
  obtain ⟨z, hz, hb⟩ := h
  exact bn_const hx hz hb
def Nat' (M : List Nd) (op x y i : Int) : Prop := inG M i ∧ nd M i = ⟨4, 0, 0, op, x, y⟩
theorem Nat'.fn {M : List Nd} (h1 : One M) {op x y i j : Int} (h : Nat' M op x y i) (h' : Nat' M op x y j) : i = j := one_eq h1 h.1 h'.1 (h.2.trans h'.2.symm)
theorem Nat'.of {M : List Nd} {op x y i : Int} (hm : Nd.may ⟨4, 0, 0, op, x, y⟩ M.length = true) (h : addN M ⟨4, 0, 0, op, x, y⟩ = (i, M)) : Nat' M op x y i := by
  obtain ⟨a, b⟩ := add_ok hm
  rw [h] at a b
  exact ⟨a, b⟩
end Go.Proofs.YtpdeoalocejodaaGreatDoor
/- Terms made plain: numbers put to a plain term, in any grouping. -/
namespace Go.Proofs.YtpdeoalocejodaaGreatDoor
open Go Go.Am
set_option maxRecDepth 100000
set_option maxHeartbeats 1000000
-- parities
inductive Pl (M : List Nd) : Int → Prop
  | leaf {x : Int} : inG M x → (nd M x).kind ≠ 3 → (nd M x).kind ≠ 4 → Pl M x
  | cell {x : Int} : inG M x → (nd M x).kind = 3 → Pl M (nd M x).y → Pl M x
  | bin {x : Int} : inG M x → (nd M x).kind = 4 → Pl M (nd M x).x → Pl M (nd M x).y → Bn M (nd M x).op (nd M x).x (nd M x).y x → Pl M x
section
variable {M : List Nd}
theorem Pl.inn {x : Int} (h : Pl M x) : inG M x := by cases h <;> assumption
theorem Pl.num {x c : Int} (h : numI M x = some c) : Pl M x := by
  unfold numI at h
  split at h
  · rename_i h1
    exact .leaf h1.1 (by omega) (by omega)
  · cases h
theorem ofI_get {x op u v : Int} (h : ofI M x op = some (u, v)) : inG M x ∧ (nd M x).kind = 4 ∧ (nd M x).op = op ∧ (nd M x).x = u ∧ (nd M x).y = v := by
  unfold ofI at h
  split at h
  · rename_i h1; cases h; exact ⟨h1.1, h1.2.1, h1.2.2, rfl, rfl⟩
  · cases h
theorem op_in (hok : okN M) {x : Int} (hx : inG M x) (hk : (nd M x).kind = 4) : 1 ≤ (nd M x).op ∧ (nd M x).op ≤ 16 := by
  have hm := nd_may hok hx
  simp [Nd.may, hk] at hm
  omega
theorem Pl.of {x op u v : Int} (hp : Pl M x) (h : ofI M x op = some (u, v)) : Pl M u ∧ Pl M v ∧ Bn M op u v x := by
  obtain ⟨h1, h2, rfl, rfl, rfl⟩ := ofI_get h
  cases hp with
  | leaf _ _ h => exact absurd h2 h
  | cell _ h _ => omega
  | bin _ _ a b c => exact ⟨a, b, c⟩
theorem tail_get {x op y d : Int} (h : tailI M x op = some (y, d)) : ∃ z, ofI M x op = some (y, z) ∧ numI M z = some d := by
  unfold tailI at h
  cases ho : ofI M x op with
  | none => rw [ho] at h; cases h
  | some p =>
    obtain ⟨u, v⟩ := p
    rw [ho] at h
    cases hn : numI M v with
    | none => simp [hn] at h
    | some c =>
      simp only [Option.bind_some, hn, Option.map_some, Option.some.injEq, Prod.mk.injEq] at h
      obtain ⟨rfl, rfl⟩ := h
      exact ⟨v, rfl, hn⟩
theorem Pl.tail {x op y d : Int} (hp : Pl M x) (h : tailI M x op = some (y, d)) : Pl M y ∧ Ec M op y d x := by
  obtain ⟨z, h1, h2⟩ := tail_get h
  obtain ⟨a, b, c⟩ := hp.of h1
  exact ⟨a, z, h2, c⟩
theorem Pl.up {L : List Nd} (hok : okN L) {x : Int} (h : Pl L x) (hM : L <+: M) : Pl M x := by
  induction h with
  | leaf h1 h2 h3 => obtain ⟨g1, g2⟩ := nd_ext hM h1; exact .leaf g1 (by rw [g2]; exact h2) (by rw [g2]; exact h3)
  | cell h1 h2 h3 ih => obtain ⟨g1, g2⟩ := nd_ext hM h1; exact .cell g1 (by rw [g2]; exact h2) (by rw [g2]; exact ih)
  | @bin x h1 h2 h3 h4 h5 ih1 ih2 =>
    obtain ⟨g1, g2⟩ := nd_ext hM h1
    exact .bin g1 (by rw [g2]; exact h2) (by rw [g2]; exact ih1) (by rw [g2]; exact ih2) (by rw [g2]; exact h5.up hok h3.inn h4.inn (op_in hok h1 h2) hM)
theorem Nat'.of4 {op x y i : Int} (h : Nat' M op x y i) : ofI M i op = some (x, y) := by
  unfold ofI
  rw [h.2, if_pos ⟨h.1, rfl, rfl⟩]
theorem Nat'.tail {op x w c i : Int} (h : Nat' M op x w i) (hw : numI M w = some c) : tailI M i op = some (x, c) := by
  unfold tailI
  rw [h.of4]
  simp [hw]
theorem Nat'.num {op x y i : Int} (h : Nat' M op x y i) : numI M i = none := by
  unfold numI
  rw [h.2, if_neg]
  rintro ⟨_, h⟩
  simp at h
theorem Ec.inG {op x c i : Int} (hok : okN M) (hx : Go.Proofs.YtpdeoalocejodaaGreatDoor.inG M x) (ho : 1 ≤ op ∧ op ≤ 16) (h : Ec M op x c i) : Go.Proofs.YtpdeoalocejodaaGreatDoor.inG M i ∧ i64 c := by
  obtain ⟨z, hz, f, hf⟩ := h
  obtain ⟨h1, h2⟩ := keep_nil f _ _ _ _ _ hok hx (num_nd hok hz).1 ho hf
  exact ⟨(h1.val h2).1, (numI_ok (S := []) (C := []) hok hz).2⟩
end
end Go.Proofs.YtpdeoalocejodaaGreatDoor
/- Terms made plain: what is the same, in a graph that has it all. -/
namespace Go.Proofs.YtpdeoalocejodaaGreatDoor
open Go Go.Am
set_option maxRecDepth 100000
set_option maxHeartbeats 1000000
section
variable {M : List Nd}
end
end Go.Proofs.YtpdeoalocejodaaGreatDoor
/- Terms made plain: what is the same by another operation. -/
namespace Go.Proofs.YtpdeoalocejodaaGreatDoor
open Go Go.Am
set_option maxRecDepth 100000
set_option maxHeartbeats 1000000
section
variable {M : List Nd}
end
end Go.Proofs.YtpdeoalocejodaaGreatDoor
