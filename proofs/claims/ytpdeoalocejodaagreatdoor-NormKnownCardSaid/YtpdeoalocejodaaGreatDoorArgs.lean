/- The arguments of the laws, as nodes. -/
import Derived.Test.YtpdeoalocejodaaGreatDoorSeat
namespace Go.Proofs.YtpdeoalocejodaaGreatDoor
open Go Go.Am
set_option maxRecDepth 100000
theorem wf_i64 {n : Int} (h : (Lit.int .i64 n).wf = true) : i64 n := by
 have h1 : IntKind.i64.min = -9223372036854775808 := by decide
 have h2 : IntKind.i64.max = 9223372036854775807 := by decide
 simp only [Lit.wf, Bool.and_eq_true, decide_eq_true_eq, h1, h2] at h
 exact h
theorem QGX : Tryz.prog.cellsOf 57 = 6 := by kernel_rfl
theorem agg57 : Qlg Tryz.prog 57 = true := by kernel_rfl
theorem QGe {n : Nat} {l : List V} (h : VT Tryz.prog (n + 2) 57 l) : ∃ d : Nd, l = d.cells ∧ i64 d.n ∧ i64 d.a ∧ i64 d.x ∧ i64 d.y := by
 simp only [VT, Tryz.underlying57, VTs, Tryz.underlying5, Tryz.underlying2, Tryz.underlying3, Tryz.underlying23, Tryz.underlying26] at h
 obtain ⟨_, _, rfl, ⟨k, rfl, _⟩, _, _, rfl, ⟨a, rfl, ha⟩, _, _, rfl, ⟨b, rfl, hb⟩, _, _, rfl, ⟨c, rfl, _⟩, _, _, rfl, ⟨x, rfl, hx⟩, _, _, rfl, ⟨y, rfl, hy⟩, rfl⟩ := h
 exact ⟨⟨k, a, b, c, x, y⟩, rfl, wf_i64 ha, wf_i64 hb, wf_i64 hx, wf_i64 hy⟩
theorem Qmn {α : Type} {p : α → Prop} {f : α → List V} : ∀ {q : List (List V)}, (∀ x ∈ q, ∃ d, x = f d ∧ p d) → ∃ ds : List α, q = ds.map f ∧ ∀ d ∈ ds, p d
 | [], _ => ⟨[], rfl, by simp⟩
 | x :: q, h => by
   obtain ⟨d, hd, hp⟩ := h x (by simp)
   obtain ⟨ds, h1, h2⟩ := Qmn (q := q) fun y hy => h y (by simp [hy])
   exact ⟨d :: ds, by simp [hd, h1], by simpa [hp] using h2⟩
theorem nodes_of {n : Nat} {l : List V} (h : VT Tryz.prog (n + 3) 22 l) : ∃ ds : List Nd, l = [.lst 6 (ds.map fun d => .agg d.cells) false] ∧ ∀ d ∈ ds, i64 d.n ∧ i64 d.a ∧ i64 d.x ∧ i64 d.y := by
 rw [VT] at h
 simp only [Tryz.underlying22] at h
 obtain ⟨q, rfl, _, hq⟩ := h
 obtain ⟨ds, rfl, hd⟩ := Qmn fun x hx => QGe (hq x hx)
 refine ⟨ds, ?_, hd⟩
 simp [QGX, agg57, toV]
end Go.Proofs.YtpdeoalocejodaaGreatDoor
