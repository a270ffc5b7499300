/- Numbers in words, as the program reckons them. -/
import Derived.Test.YtkhdfbokkneeaaaDoorRvE
namespace Go.Rv
open Go Go.Am
set_option maxRecDepth 100000

/-- Of which bits a form's number is made: from, as many. -/
def bitsOf (f : Int) : List (Nat × Nat) :=
  if f = 73 then [(20, 12)] else if f = 72 then [(20, 6)] else if f = 87 then [(20, 5)] else if f = 83 then [(25, 7), (7, 5)] else if f = 66 then [(31, 1), (7, 1), (25, 6), (8, 4)]
  else if f = 85 then [(12, 20)] else if f = 74 then [(31, 1), (12, 8), (20, 1), (21, 10)] else []
def nghts (f : Int) : Nat := if f = 66 ∨ f = 74 then 1 else if f = 85 then 12 else 0
def isSgn (f : Int) : Bool := f = 73 ∨ f = 83 ∨ f = 66 ∨ f = 85 ∨ f = 74

def widthP (l : List (Nat × Nat)) (z : Nat) : Nat := l.foldl (fun n b => n + b.2) z
def accP (w : Int) (l : List (Nat × Nat)) (z : Int) : Int := l.foldl (fun n b => n * 2 ^ b.2 + fld w b.1 b.2) z
/-- The last ones first: what is put there, what is left. -/
def sprP (l : List (Nat × Nat)) (n : Int) : Int × Int := l.foldr (fun b p => (p.1 + p.2 % 2 ^ b.2 * 2 ^ b.1, p.2 / 2 ^ b.2)) (0, n)
def numP (f w : Int) : Int :=
  let n := accP w (bitsOf f) 0 * 2 ^ nghts f
  if isSgn f then sgn n (widthP (bitsOf f) (nghts f)) else n
def fitsP (f n : Int) : Bool :=
  let over := (2 : Int) ^ widthP (bitsOf f) (nghts f)
  if isSgn f then decide (n ≥ (0 - over).tdiv 2 ∧ n < over.tdiv 2 ∧ n % 2 ^ nghts f = 0) else decide (n ≥ 0 ∧ n < over ∧ n % 2 ^ nghts f = 0)
def spreadP (f n : Int) : Int := (sprP (bitsOf f) (n / 2 ^ nghts f)).1

theorem forms {r : RR} (hg : good r = true) : r.form = 82 ∨ r.form = 87 ∨ r.form = 73 ∨ r.form = 72 ∨ r.form = 83 ∨ r.form = 66 ∨ r.form = 85 ∨ r.form = 74 ∨ r.form = 69 := by
  simp only [good, Bool.and_eq_true, Bool.or_eq_true, decide_eq_true_eq, or_assoc] at hg
  rcases hg.2 with h | h | h | h | h | h | h | h | h <;> simp [h]

theorem numP_eq {f : Int} (w : Int) (h : f = 82 ∨ f = 87 ∨ f = 73 ∨ f = 72 ∨ f = 83 ∨ f = 66 ∨ f = 85 ∨ f = 74 ∨ f = 69) : numP f w = number w f := by
  rcases h with rfl | rfl | rfl | rfl | rfl | rfl | rfl | rfl | rfl <;>
    simp only [numP, number, bitsOf, nghts, isSgn, accP, widthP, List.foldl_cons, List.foldl_nil, Int.reduceEq, if_true, if_false, or_true, or_false, decide_true, decide_false, Bool.false_eq_true, Nat.zero_add, Nat.reduceAdd, Int.zero_mul, Int.zero_add, Int.reducePow, Int.mul_one] <;> (try rfl)
  · congr 1; omega
  · congr 1; omega

theorem spreadP_eq {f : Int} (n : Int) (h : f = 82 ∨ f = 87 ∨ f = 73 ∨ f = 72 ∨ f = 83 ∨ f = 66 ∨ f = 85 ∨ f = 74 ∨ f = 69) (hr : room f n = true) : spreadP f n = spread f n := by
  rcases h with rfl | rfl | rfl | rfl | rfl | rfl | rfl | rfl | rfl <;>
    simp only [spreadP, sprP, spread, room, bitsOf, nghts, List.foldr_cons, List.foldr_nil, Int.reduceEq, if_true, if_false, or_true, or_false, Int.reducePow, Int.zero_add, Int.ediv_one, decide_eq_true_eq] at hr ⊢ <;> (try omega)
theorem fitsP_eq {f : Int} (n : Int) (h : f = 82 ∨ f = 87 ∨ f = 73 ∨ f = 72 ∨ f = 83 ∨ f = 66 ∨ f = 85 ∨ f = 74 ∨ f = 69) : fitsP f n = room f n := by
  rcases h with rfl | rfl | rfl | rfl | rfl | rfl | rfl | rfl | rfl <;>
    simp [fitsP, room, bitsOf, nghts, isSgn, widthP] <;> (try (rw [Bool.eq_iff_iff]; simp only [Bool.and_eq_true, decide_eq_true_eq]; omega))
  all_goals omega
end Go.Rv
