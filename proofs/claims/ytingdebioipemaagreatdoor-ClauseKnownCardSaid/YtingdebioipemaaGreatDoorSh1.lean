/- The comparisons that are handed to the library's sort: walked by the kit's tactics. -/
import Derived.Test.YtingdebioipemaaGreatDoorProg
import Derived.Shelf.SlSortCmp.Whole1
import Derived.WalkKit
import Derived.KernelRfl
import Derived.Test.YtingdebioipemaaGreatDoorJ1
namespace Go.Proofs.YtingdebioipemaaGreatDoor
open Go Go.Sort Go.Cl
set_option maxRecDepth 100000
theorem Qz9 (x:Int) (w:World):Calls Tryz.prog 77 #[.int .i64 x] w fun e w'=>e=.returned (.bool false)∧w'=w:=by
 go_enter Tryz.func77,Tryz.ntmps77
 go_wp2
 go_ret
 simp
def mk (x:Int):Int:=max x (RowKit.wrap64 (-x))
theorem w_abs (x:Int) (w:World):Calls Tryz.prog 46 #[.int .i64 x] w fun e w'=>e=.returned (.int .i64 (mk x))∧w'=w:=by
 unfold mk
 go_enter Tryz.func46,Tryz.ntmps46
 go_wp2
 go_ret
 exact ⟨rfl,rfl⟩
def QuG (x y:Int):Int:=if x<y then -1 else if y<x then 1 else 0
theorem w_cmp (x y:Int) (w:World):Calls Tryz.prog 45 #[.int .i64 x,.int .i64 y] w fun e w'=>e=.returned (.int .i64 (QuG x y))∧w'=w:=by
 unfold QuG
 go_enter Tryz.func45,Tryz.ntmps45
 go_wp2_with (go_at_call 77; refine (Qz9 _ _).mono ?_; rintro e w' ⟨rfl,rfl⟩)
 all_goals (go_ret)
 all_goals (try simp_all)
def cfU (x y:Int):Int:=QuG (mk x) (mk y)
theorem w_S4' (A:Int→Int) (K:Int→Int→Int) (hA:∀ x w,Calls Tryz.prog 46 #[.int .i64 x] w fun e w'=>e=.returned (.int .i64 (A x))∧w'=w) (hK:∀ x y w,Calls Tryz.prog 45 #[.int .i64 x,.int .i64 y] w fun e w'=>e=.returned (.int .i64 (K x y))∧w'=w)
 (x y:Int) (w:World):Calls Tryz.prog 54 #[.int .i64 x,.int .i64 y] w fun e w'=>e=.returned (.int .i64 (K (A x) (A y)))∧∃ q,w'=w.drewN q:=by
 go_enter Tryz.func54,Tryz.ntmps54
 go_wp2_with (first | (go_at_call 46; refine (hA _ _).mono ?_; rintro e w' ⟨rfl,rfl⟩) | (go_at_call 45; refine (hK _ _ _).mono ?_; rintro e w' ⟨rfl,rfl⟩))
 all_goals (go_ret)
 all_goals (exact ⟨rfl,0,rfl⟩)
theorem w_S4 (x y:Int) (w:World):Calls Tryz.prog 54 #[.int .i64 x,.int .i64 y] w fun e w'=>e=.returned (.int .i64 (cfU x y))∧∃ q,w'=w.drewN q:=w_S4' mk QuG w_abs w_cmp x y w
def orX (x y:Int):Int:=if x≠0 then x else y
theorem w_Or (x y:Int) (b o c:Nat) (w:World) (h0:w.cell? ⟨b,o,none⟩=some (.int .i64 x)) (h1:w.cell? ⟨b,o+1,none⟩=some (.int .i64 y)):Calls Tryz.prog 44 #[.slice (some ⟨b,o,none⟩) 2 c] w fun e w'=>e=.returned (.int .i64 (orX x y))∧w'=w:=by
 by_cases hx:x=0
 ·have e:orX x y=y:=by simp [orX,hx]
  rw [e]
  by_cases hy:y=0
  ·subst hx hy
   go_enter Tryz.func44,Tryz.ntmps44
   go_wp2
   refine wp_loop_rounds 3 ?_
   rw [rounds_succ]
   go_wp2
   rw [rounds_succ]
   go_wp2
   rw [rounds_succ]
   go_wp2
   go_ret
   exact ⟨rfl,rfl⟩
  ·subst hx
   go_enter Tryz.func44,Tryz.ntmps44
   go_wp2
   refine wp_loop_rounds 3 ?_
   rw [rounds_succ]
   go_wp2
   rw [rounds_succ]
   go_wp2
   go_ret
   exact ⟨rfl,rfl⟩
 ·have e:orX x y=x:=by simp [orX,hx]
  rw [e]
  go_enter Tryz.func44,Tryz.ntmps44
  go_wp2
  refine wp_loop_rounds 3 ?_
  rw [rounds_succ]
  go_wp2
  go_ret
  exact ⟨rfl,rfl⟩
theorem al0 (w:World) (a b:Value) (T:Nat):(w.alloc (.cells #[a,b] T)).cell? ⟨w.heap.size,0,none⟩=some a:=by
 show (match (w.heap.push (.cells #[a,b] T))[w.heap.size]? with | some (.cells c _ _)=>(if (none:Option Nat).isSome then none else c[0]?) | _=>none)=some a
 rw [Array.getElem?_push_size]; rfl
theorem al1 (w:World) (a b:Value) (T:Nat):(w.alloc (.cells #[a,b] T)).cell? ⟨w.heap.size,0+1,none⟩=some b:=by
 show (match (w.heap.push (.cells #[a,b] T))[w.heap.size]? with | some (.cells c _ _)=>(if (none:Option Nat).isSome then none else c[1]?) | _=>none)=some b
 rw [Array.getElem?_push_size]; rfl
theorem alG (w:World) (a b:Value) (T:Nat):w.alloc (.cells #[a,b] T)=grow (w.drewN 0) #[.cells #[a,b] T]:=by
 unfold World.alloc grow World.drewN
 rw [Array.push_eq_append]
 rfl
def cfC (x y:Int):Int:=orX (QuG (mk x) (mk y)) (QuG x y)
theorem w_CS1' (A:Int→Int) (K O:Int→Int→Int) (hA:∀ x w,Calls Tryz.prog 46 #[.int .i64 x] w fun e w'=>e=.returned (.int .i64 (A x))∧w'=w) (hK:∀ x y w,Calls Tryz.prog 45 #[.int .i64 x,.int .i64 y] w fun e w'=>e=.returned (.int .i64 (K x y))∧w'=w)
 (hO:∀ x y b o c w,w.cell? ⟨b,o,none⟩=some (.int .i64 x)→w.cell? ⟨b,o+1,none⟩=some (.int .i64 y)→Calls Tryz.prog 44 #[.slice (some ⟨b,o,none⟩) 2 c] w fun e w'=>e=.returned (.int .i64 (O x y))∧w'=w)
 (x y:Int) (w:World):Calls Tryz.prog 43 #[.int .i64 x,.int .i64 y] w fun e w'=>e=.returned (.int .i64 (O (K (A x) (A y)) (K x y)))∧∃ q os',w'=grow (w.drewN q) os':=by
 go_enter Tryz.func43,Tryz.ntmps43
 go_wp2_with (first | (go_at_call 46; refine (hA _ _).mono ?_; rintro e w' ⟨rfl,rfl⟩) | (go_at_call 45; refine (hK _ _ _).mono ?_; rintro e w' ⟨rfl,rfl⟩))
 refine (hO _ _ _ _ _ _ (al0 _ _ _ _) (al1 _ _ _ _)).mono ?_
 rintro e w'' ⟨rfl,rfl⟩
 go_wp2
 go_ret
 exact ⟨rfl,0,_,alG _ _ _ _⟩
theorem w_CS1 (x y:Int) (w:World):Calls Tryz.prog 43 #[.int .i64 x,.int .i64 y] w fun e w'=>e=.returned (.int .i64 (cfC x y))∧∃ q os',w'=grow (w.drewN q) os':=w_CS1' mk QuG orX w_abs w_cmp w_Or x y w
theorem ltU (x y:Int):ltOf cfU x y=decide (mk x<mk y):=by
 unfold ltOf cfU QuG
 by_cases h1:mk x<mk y
 ·simp [h1]
 ·by_cases h2:mk y<mk x <;> simp [h1,h2]
theorem ltC (x y:Int):ltOf cfC x y=decide (mk x<mk y∨mk x=mk y∧x<y):=by
 unfold ltOf cfC orX QuG
 by_cases h1:mk x<mk y
 ·simp [h1]
 ·by_cases h2:mk y<mk x
  ·have:mk x≠mk y:=by omega
   simp [h1,h2,this]
  ·have:mk x=mk y:=by omega
   by_cases h3:x<y
   ·simp [this,h3]
   ·by_cases h4:y<x <;> simp [this,h3,h4]
theorem swoU:SWO (ltOf cfU) where
 irrefl x:=by rw [ltU]; simp
 trans x y z h1 h2:=by rw [ltU] at *; simp at *; omega
 ntrans x y z h1 h2:=by rw [ltU] at *; simp at *; omega
theorem swoC:SWO (ltOf cfC) where
 irrefl x:=by rw [ltC]; simp
 trans x y z h1 h2:=by rw [ltC] at *; simp only [decide_eq_true_eq] at *; omega
 ntrans x y z h1 h2:=by rw [ltC] at *; simp only [decide_eq_false_iff_not] at *; omega
end Go.Proofs.YtingdebioipemaaGreatDoor
