/- The comparison of pairs that is handed to the library's sort: walked by the kit's tactics. -/
import Derived.Test.YtfgccihafnjalaaGreatDoorProg
import Derived.Shelf.SlSortCmp.NoneTotal
import Derived.WalkKit
import Derived.KernelRfl
import Derived.Test.YtfgccihafnjalaaGreatDoorJ5
import Derived.Test.YtfgccihafnjalaaGreatDoorAmD
namespace Go.Proofs.YtfgccihafnjalaaGreatDoor
open Go Go.Am Go.Sort Go.Re
set_option maxRecDepth 100000
theorem w_nan1 (x:Int) (w:World):Calls Tryz.prog 79 #[.int .i64 x] w fun e w'=>e=.returned (.bool false)∧w'=w:=by
 go_enter Tryz.func79,Tryz.ntmps79
 go_wp2
 go_ret
 simp
theorem w_nan2 (x:Int) (w:World):Calls Tryz.prog 80 #[.int .u8 x] w fun e w'=>e=.returned (.bool false)∧w'=w:=by
 go_enter Tryz.func80,Tryz.ntmps80
 go_wp2
 go_ret
 simp
theorem w_nan3 (x:Int) (w:World):Calls Tryz.prog 81 #[.int .i64 x] w fun e w'=>e=.returned (.bool false)∧w'=w:=by
 go_enter Tryz.func81,Tryz.ntmps81
 go_wp2
 go_ret
 simp
def QsJ (x y:Int):Int:=if x<y then -1 else if y<x then 1 else 0
theorem w_cmp1 (x y:Int) (w:World):Calls Tryz.prog 56 #[.int .i64 x,.int .i64 y] w fun e w'=>e=.returned (.int .i64 (QsJ x y))∧w'=w:=by
 unfold QsJ
 go_enter Tryz.func56,Tryz.ntmps56
 go_wp2_with (go_at_call 79; refine (w_nan1 _ _).mono ?_; rintro e w' ⟨rfl,rfl⟩)
 all_goals (go_ret)
 all_goals (try simp_all)
theorem w_cmp2 (x y:Int) (w:World):Calls Tryz.prog 57 #[.int .u8 x,.int .u8 y] w fun e w'=>e=.returned (.int .i64 (QsJ x y))∧w'=w:=by
 unfold QsJ
 go_enter Tryz.func57,Tryz.ntmps57
 go_wp2_with (go_at_call 80; refine (w_nan2 _ _).mono ?_; rintro e w' ⟨rfl,rfl⟩)
 all_goals (go_ret)
 all_goals (try simp_all)
theorem w_cmp3 (x y:Int) (w:World):Calls Tryz.prog 58 #[.int .i64 x,.int .i64 y] w fun e w'=>e=.returned (.int .i64 (QsJ x y))∧w'=w:=by
 unfold QsJ
 go_enter Tryz.func58,Tryz.ntmps58
 go_wp2_with (go_at_call 81; refine (w_nan3 _ _).mono ?_; rintro e w' ⟨rfl,rfl⟩)
 all_goals (go_ret)
 all_goals (try simp_all)
def orI (x y z:Int):Int:=if x≠0 then x else if y≠0 then y else z
theorem w_Or (x y z:Int) (b o c:Nat) (w:World) (h0:w.cell? ⟨b,o,none⟩=some (.int .i64 x)) (h1:w.cell? ⟨b,o+1,none⟩=some (.int .i64 y)) (h2:w.cell? ⟨b,o+2,none⟩=some (.int .i64 z)) :
 Calls Tryz.prog 55 #[.slice (some ⟨b,o,none⟩) 3 c] w fun e w'=>e=.returned (.int .i64 (orI x y z))∧w'=w:=by
 by_cases hx:x=0
 ·by_cases hy:y=0
  ·have e:orI x y z=z:=by simp [orI,hx,hy]
   rw [e]
   by_cases hz:z=0
   ·subst hx hy hz
    go_enter Tryz.func55,Tryz.ntmps55
    go_wp2
    refine wp_loop_rounds 4 ?_
    rw [rounds_succ]
    go_wp2
    rw [rounds_succ]
    go_wp2
    rw [rounds_succ]
    go_wp2
    rw [rounds_succ]
    go_wp2
    go_ret
    exact ⟨rfl,rfl⟩
   ·subst hx hy
    go_enter Tryz.func55,Tryz.ntmps55
    go_wp2
    refine wp_loop_rounds 4 ?_
    rw [rounds_succ]
    go_wp2
    rw [rounds_succ]
    go_wp2
    rw [rounds_succ]
    go_wp2
    go_ret
    exact ⟨rfl,rfl⟩
  ·have e:orI x y z=y:=by simp [orI,hx,hy]
   rw [e]
   subst hx
   go_enter Tryz.func55,Tryz.ntmps55
   go_wp2
   refine wp_loop_rounds 4 ?_
   rw [rounds_succ]
   go_wp2
   rw [rounds_succ]
   go_wp2
   go_ret
   exact ⟨rfl,rfl⟩
 ·have e:orI x y z=x:=by simp [orI,hx]
  rw [e]
  go_enter Tryz.func55,Tryz.ntmps55
  go_wp2
  refine wp_loop_rounds 4 ?_
  rw [rounds_succ]
  go_wp2
  go_ret
  exact ⟨rfl,rfl⟩
def cfP (x y:Pr):Int:=orI (QsJ x.v y.v) (QsJ x.k y.k) (QsJ x.n y.n)
def ordT:Tr:=.pu 0 (.rd 1 (.pu 2 (.rd 3 (.pu 5 (.pu 6 (.rd 7 (.pu 8 (.pu 9 (.rd 10 (.pu 12 (.pu 13 (.rd 14 (.pu 15 (.pu 16 (.rd 17 (.op 4 true (.op 11 true (.op 18 false (.op 19 false (.op 20 false (.pu 21 (.done))))))))))))))))))))))
def ordS (b:Nat):SZ:=⟨⟨fun c _=>c=b∨c=b+1,fun _=>False⟩,⟨fun c _=>c=b∨c=b+1,fun _=>False⟩⟩
theorem QrR {P:Program} {ops:Array Oper} {Q:Act→World→Prop} {i:Nat} {t:Tr} {S:SZ} {a:Act} {w:World} {o:Oper} {v:Value} (d:Nat) (ho:ops[i]?=some o) (hg:o.guard=none∧o.dst=some d)
 (hv : ∀ w', Ek S.s w w' → (execOp a.eval o).run P w' = .ok (.value v) w') (h : RTree P ops Q t S (a.put (some d) v) w) : RTree P ops Q (.rd i t) S a w :=
 ⟨o,v,ho,.inl ⟨by simp [Region.wanted,hg.1],hv⟩,hg.2▸h⟩
theorem Qkf {P:Program} {ops:Array Oper} {Q:Act→World→Prop} {i:Nat} {t:Tr} {S:SZ} {a:Act} {w:World} {o:Oper} {v:Value} (d:Nat) (ho:ops[i]?=some o) (hg:o.guard=none∧o.dst=some d)
 (hv : ∀ w', Ek S.z w w' → (execOp a.eval o).run P w' = .ok (.value v) w') (h : RTree P ops Q t S (a.put (some d) v) w) : RTree P ops Q (.pu i t) S a w :=
 ⟨o,v,ho,.inl ⟨by simp [Region.wanted,hg.1],hv⟩,hg.2▸h⟩
theorem QmS {P:Program} {ops:Array Oper} {Q:Act→World→Prop} {i:Nat} {k:Bool} {t:Tr} {S:SZ} {a:Act} {w:World} {o:Oper} {f:FuncId} {args:Array Value} {R:Ending→World→Prop} (d:Nat) (ho:ops[i]?=some o) (hg:o.guard=none∧o.dst=some d)
 (hv : (execOp a.eval o).run P w = .ok (.enter f args) w) (hc : Calls P f args w R) (h : ∀ e w', R e w' → ∃ v, e = .returned v ∧ w' = w ∧ RTree P ops Q t S (a.put (some d) v) w') : RTree P ops Q (.op i k t) S a w := by
 refine ⟨o,ho,?_⟩
 rw [if_pos (by simp [Region.wanted,hg.1]),op1,hv,hg.2]
 exact hc.mono fun e w' hr=>by
  obtain ⟨v,h1,h2,h4⟩:=h e w' hr
  subst h2
  exact ⟨v,h1,S,⟨Sg.le.refl _,Ek.refl _ _⟩,fun _=>⟨Sg.le.refl _,Ek.refl _ _⟩,h4⟩
theorem rt_new {P:Program} {ops:Array Oper} {Q:Act→World→Prop} {i:Nat} {k:Bool} {t:Tr} {S:SZ} {a:Act} {w w':World} {o:Oper} {v:Value} (d:Nat) (ho:ops[i]?=some o) (hg:o.guard=none∧o.dst=some d)
 (hv:(execOp a.eval o).run P w=.ok (.value v) w') (hz:Ek S.z w w') (hs:Ek S.s w w') (h:RTree P ops Q t S (a.put (some d) v) w'):RTree P ops Q (.op i k t) S a w:=by
 refine ⟨o,ho,?_⟩
 rw [if_pos (by simp [Region.wanted,hg.1]),op1,hv,hg.2]
 exact ⟨S,⟨Sg.le.refl _,hz⟩,fun _=>⟨Sg.le.refl _,hs⟩,h⟩
theorem alloc_old (w:World) (o:Obj) {c:Nat} (h:c<w.heap.size):(w.alloc o).heap[c]?=w.heap[c]?:=by
 show (w.heap.push o)[c]?=_
 simp [Array.getElem?_push,Nat.ne_of_lt h]
theorem Qe6 (w:World) (o:Obj):(w.alloc o).heap[w.heap.size]?=some o:=by
 show (w.heap.push o)[w.heap.size]?=_
 simp
theorem Qk8 {w:World} {b i T:Nat} {cs:Array Value} (h:w.heap[b]?=some (.cells cs T)):w.cell? ⟨b,i,none⟩=cs[i]?:=by
 simp [World.cell?,h]
theorem Qzc {b:Nat} {w:World} (h:b+1<w.heap.size) (o:Obj):Ek ⟨fun c _=>c=b∨c=b+1,fun _=>False⟩ w (w.alloc o) :=
 ⟨rfl,rfl,rfl,by simp,fun c o' e=>by
  have hc:c<w.heap.size:=by rcases e with e | e <;> omega
  show World.cell? (w.alloc o) _=_
  simp only [World.cell?,alloc_old w o hc],fun _ h=>h.elim⟩
theorem QvJ (K O3:Int→Int→Int) (O:Int→Int→Int→Int) (h1:∀ x y w,Calls Tryz.prog 56 #[.int .i64 x,.int .i64 y] w fun e w'=>e=.returned (.int .i64 (K x y))∧w'=w)
 (h2:∀ x y w,Calls Tryz.prog 57 #[.int .u8 x,.int .u8 y] w fun e w'=>e=.returned (.int .i64 (K x y))∧w'=w) (h3:∀ x y w,Calls Tryz.prog 58 #[.int .i64 x,.int .i64 y] w fun e w'=>e=.returned (.int .i64 (K x y))∧w'=w)
 (hO:∀ x y z b o c w,w.cell? ⟨b,o,none⟩=some (.int .i64 x)→w.cell? ⟨b,o+1,none⟩=some (.int .i64 y)→w.cell? ⟨b,o+2,none⟩=some (.int .i64 z)→Calls Tryz.prog 55 #[.slice (some ⟨b,o,none⟩) 3 c] w fun e w'=>e=.returned (.int .i64 (O x y z))∧w'=w)
 (x y : Pr) (w : World) : Calls Tryz.prog 31 #[.agg #[.int .i64 x.v, .int .u8 x.k, .int .i64 x.n], .agg #[.int .i64 y.v, .int .u8 y.k, .int .i64 y.n]] w fun e w' => e = .returned (.int .i64 (O (K x.v y.v) (K x.k y.k) (K x.n y.n))) ∧ ∃ q os', w' = grow (w.drewN q) os' := by
 go_enter Tryz.func31,Tryz.ntmps31
 go_wp2_with (first | (go_at_call 56; refine (h1 _ _ _).mono ?_; rintro e w' ⟨rfl,rfl⟩) | (go_at_call 57; refine (h2 _ _ _).mono ?_; rintro e w' ⟨rfl,rfl⟩) | (go_at_call 58; refine (h3 _ _ _).mono ?_; rintro e w' ⟨rfl,rfl⟩))
 have hw2:∃ w2,w2=((w.alloc (.cells #[.int .i64 x.v,.int .u8 x.k,.int .i64 x.n] 64)).alloc (.cells #[.int .i64 y.v,.int .u8 y.k,.int .i64 y.n] 64)).drew:=⟨_,rfl⟩
 obtain ⟨w2,hw2⟩:=hw2
 refine Qty (t:=ordT) (kd:=fun i=>[3,0,3,0,1,3,3,0,3,3,0,1,3,3,0,3,3,0,2,2,2,3].getD i 0) (S:=ordS w.heap.size) (by kernel_rfl) (by kernel_rfl) ?_
 rw [← hw2]
 have hsz:w2.heap.size=w.heap.size+2:=by rw [hw2]; simp
 have hx0:w2.heap[w.heap.size]?=some (.cells #[.int .i64 x.v,.int .u8 x.k,.int .i64 x.n] 64):=by
  rw [hw2]
  exact (alloc_old _ _ (by simp)).trans (Qe6 w _)
 have hy0:w2.heap[w.heap.size+1]?=some (.cells #[.int .i64 y.v,.int .u8 y.k,.int .i64 y.n] 64):=by
  rw [hw2]
  have:=Qe6 (w.alloc (.cells #[.int .i64 x.v,.int .u8 x.k,.int .i64 x.n] 64)) (.cells #[.int .i64 y.v,.int .u8 y.k,.int .i64 y.n] 64)
  rwa [show (w.alloc (.cells #[.int .i64 x.v,.int .u8 x.k,.int .i64 x.n] 64)).heap.size=w.heap.size+1 by simp] at this
 have cx : ∀ (i : Nat) (v : Value), (#[Value.int .i64 x.v, .int .u8 x.k, .int .i64 x.n])[i]? = some v → ∀ w', Ek (ordS w.heap.size).s w2 w' → w'.cell? ⟨w.heap.size, i, none⟩ = some v := fun i v hv w' hk => by
  rw [hk.cells _ _ (.inl rfl),Qk8 hx0]; exact hv
 have cy : ∀ (i : Nat) (v : Value), (#[Value.int .i64 y.v, .int .u8 y.k, .int .i64 y.n])[i]? = some v → ∀ w', Ek (ordS w.heap.size).s w2 w' → w'.cell? ⟨w.heap.size + 1, i, none⟩ = some v := fun i v hv w' hk => by
  rw [hk.cells _ _ (.inr rfl),Qk8 hy0]; exact hv
 refine Qkf (v:=.pointer (some ⟨w.heap.size,0,none⟩)) 5 rfl ⟨rfl,rfl⟩ (fun w' hk=>?_) ?_
 ·go_simp
 refine QrR (v:=.int .i64 x.v) 6 rfl ⟨rfl,rfl⟩ (fun w' hk=>?_) ?_
 ·have:=cx 0 _ rfl w' hk
  go_simp
 refine Qkf (v:=.pointer (some ⟨w.heap.size+1,0,none⟩)) 7 rfl ⟨rfl,rfl⟩ (fun w' hk=>?_) ?_
 ·go_simp
 refine QrR (v:=.int .i64 y.v) 8 rfl ⟨rfl,rfl⟩ (fun w' hk=>?_) ?_
 ·have:=cy 0 _ rfl w' hk
  go_simp
 refine Qkf (v:=.pointer (some ⟨w.heap.size,1,none⟩)) 10 rfl ⟨rfl,rfl⟩ (fun w' hk=>?_) ?_
 ·go_simp
 refine Qkf (v:=.pointer (some ⟨w.heap.size,1,none⟩)) 11 rfl ⟨rfl,rfl⟩ (fun w' hk=>?_) ?_
 ·go_simp
 refine QrR (v:=.int .u8 x.k) 12 rfl ⟨rfl,rfl⟩ (fun w' hk=>?_) ?_
 ·have:=cx 1 _ rfl w' hk
  go_simp
 refine Qkf (v:=.pointer (some ⟨w.heap.size+1,1,none⟩)) 13 rfl ⟨rfl,rfl⟩ (fun w' hk=>?_) ?_
 ·go_simp
 refine Qkf (v:=.pointer (some ⟨w.heap.size+1,1,none⟩)) 14 rfl ⟨rfl,rfl⟩ (fun w' hk=>?_) ?_
 ·go_simp
 refine QrR (v:=.int .u8 y.k) 15 rfl ⟨rfl,rfl⟩ (fun w' hk=>?_) ?_
 ·have:=cy 1 _ rfl w' hk
  go_simp
 refine Qkf (v:=.pointer (some ⟨w.heap.size,1,none⟩)) 17 rfl ⟨rfl,rfl⟩ (fun w' hk=>?_) ?_
 ·go_simp
 refine Qkf (v:=.pointer (some ⟨w.heap.size,2,none⟩)) 18 rfl ⟨rfl,rfl⟩ (fun w' hk=>?_) ?_
 ·go_simp
 refine QrR (v:=.int .i64 x.n) 19 rfl ⟨rfl,rfl⟩ (fun w' hk=>?_) ?_
 ·have:=cx 2 _ rfl w' hk
  go_simp
 refine Qkf (v:=.pointer (some ⟨w.heap.size+1,1,none⟩)) 20 rfl ⟨rfl,rfl⟩ (fun w' hk=>?_) ?_
 ·go_simp
 refine Qkf (v:=.pointer (some ⟨w.heap.size+1,2,none⟩)) 21 rfl ⟨rfl,rfl⟩ (fun w' hk=>?_) ?_
 ·go_simp
 refine QrR (v:=.int .i64 y.n) 22 rfl ⟨rfl,rfl⟩ (fun w' hk=>?_) ?_
 ·have:=cy 2 _ rfl w' hk
  go_simp
 refine QmS (f:=56) (args:=#[.int .i64 x.v,.int .i64 y.v]) 9 rfl ⟨rfl,rfl⟩ (by go_simp) (h1 _ _ _) (fun e w3 ⟨he,hw3⟩=>⟨_,he,hw3,?_⟩)
 subst hw3
 refine QmS (f:=57) (args:=#[.int .u8 x.k,.int .u8 y.k]) 16 rfl ⟨rfl,rfl⟩ (by go_simp) (h2 _ _ _) (fun e w4 ⟨he,hw4⟩=>⟨_,he,hw4,?_⟩)
 subst hw4
 refine QmS (f:=58) (args:=#[.int .i64 x.n,.int .i64 y.n]) 23 rfl ⟨rfl,rfl⟩ (by go_simp) (h3 _ _ _) (fun e w5 ⟨he,hw5⟩=>⟨_,he,hw5,?_⟩)
 subst hw5
 subst_vars
 clear hx0 hy0 cx cy h1 h2 h3
 generalize hw3:((w.alloc (.cells #[.int .i64 x.v,.int .u8 x.k,.int .i64 x.n] 64)).alloc (.cells #[.int .i64 y.v,.int .u8 y.k,.int .i64 y.n] 64)).drew=w3 at *
 refine rt_new (v:=.slice (some ⟨w3.heap.size,0,none⟩) 3 3) (w':=w3.alloc (.cells #[.int .i64 (K x.v y.v),.int .i64 (K x.k y.k),.int .i64 (K x.n y.n)] 3)) 24 rfl ⟨rfl,rfl⟩ (by go_simp) (Qzc (by omega) _) (Qzc (by omega) _) ?_
 refine QmS (f:=55) (args:=#[.slice (some ⟨w3.heap.size,0,none⟩) 3 3]) 25 rfl ⟨rfl,rfl⟩ (by go_simp) (hO (K x.v y.v) (K x.k y.k) (K x.n y.n) _ _ _ _ ?_ ?_ ?_) (fun e w6 ⟨he,hw6⟩=>⟨_,he,hw6,?_⟩)
 ·rw [Qk8 (Qe6 _ _)]; rfl
 ·rw [Qk8 (Qe6 _ _)]; rfl
 ·rw [Qk8 (Qe6 _ _)]; rfl
 subst hw6
 refine Qkf (v:=.int .i64 (O (K x.v y.v) (K x.k y.k) (K x.n y.n))) 4 rfl ⟨rfl,rfl⟩ (fun w' hk=>?_) ?_
 ·go_simp
 simp only [RTree]
 go_wp2
 go_ret
 refine ⟨rfl,1,#[.cells #[.int .i64 x.v,.int .u8 x.k,.int .i64 x.n] 64,.cells #[.int .i64 y.v,.int .u8 y.k,.int .i64 y.n] 64,.cells #[.int .i64 (K x.v y.v),.int .i64 (K x.k y.k),.int .i64 (K x.n y.n)] 3],?_⟩
 rw [← hw3]
 simp only [World.alloc,grow,World.drewN,World.drew]
 simp
 apply Array.ext'
 simp
theorem QBO (x y : Pr) (w : World) : Calls Tryz.prog 31 #[.agg #[.int .i64 x.v, .int .u8 x.k, .int .i64 x.n], .agg #[.int .i64 y.v, .int .u8 y.k, .int .i64 y.n]] w fun e w' => e = .returned (.int .i64 (cfP x y)) ∧ ∃ q os', w' = grow (w.drewN q) os' := QvJ QsJ QsJ orI w_cmp1 w_cmp2 w_cmp3 w_Or x y w
end Go.Proofs.YtfgccihafnjalaaGreatDoor
