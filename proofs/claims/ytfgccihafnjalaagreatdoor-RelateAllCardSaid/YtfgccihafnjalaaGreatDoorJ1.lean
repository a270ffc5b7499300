/- A number put into a word: the range over the library's iterator, walked by the kit's law. -/
import Derived.RangeFuncNested
import Derived.RangeFuncBound
import Derived.RangeFuncCalls
import Derived.RangeFuncLeaves
import Derived.Shelf.Abstract
import Derived.Shelf.RegionOpen
import Derived.WalkKit
import Derived.OwnWalkIn
import Derived.TacticsInMore
import Derived.LoopNIn
import Derived.LoopIn
import Derived.Test.YtfgccihafnjalaaGreatDoorProg
import Derived.Test.YtfgccihafnjalaaGreatDoorAmA
namespace Go.Proofs.YtfgccihafnjalaaGreatDoor
open Go Go.Proofs Go.RowKit Go.Shelf
attribute [local go_sem] Oper.semAt_some
def upto {α:Type} (f:Nat→α) (k:Nat):List α:=(List.range k).map f
theorem QqH {α:Type} (f:Nat→α) (k:Nat):upto f (k+1)=upto f k++[f k]:=by simp [upto,List.range_succ]
theorem QsD {α:Type} (f:Nat→α) (k:Nat):(upto f k).length=k:=by simp [upto]
abbrev encB (x:Nat × (Nat × Nat)):Array Value:=#[Value.int .i64 (x.1:Int),.agg #[.int .i64 (x.2.1:Int),.int .i64 (x.2.2:Int)]]
def KpB (n₀ Bs:Nat) (W W':World):Prop:=Below n₀ W W'∧W'.heap[Bs]?=W.heap[Bs]?
theorem KpB.refl (n₀ Bs:Nat) (W:World):KpB n₀ Bs W W:=⟨Below.refl _ _,rfl⟩
theorem KpB.trans {n₀ Bs:Nat} {A B C:World} (h:KpB n₀ Bs A B) (k:KpB n₀ Bs B C):KpB n₀ Bs A C:=⟨h.1.trans k.1,k.2.trans h.2⟩
variable {A B:World} {n₀:Nat}
theorem KpB.cellB {Bs:Nat} (h:KpB n₀ Bs A B):B.cell? ⟨Bs,0,none⟩=A.cell? ⟨Bs,0,none⟩:=by simp [World.cell?,h.2]
set_option maxRecDepth 100000 in
set_option maxHeartbeats 2000000 in
theorem QBl (F:Fence) (n:Nat) (h7:F.fn 142) (hro:F.round=none) (hn:1≤n) (l Bs n₀ b off len cap:Nat) (z:Nat→Nat × Nat) (hlen:len≤1000) (hb:b<n₀) (J Jx:List (Nat × (Nat × Nat))→World→Prop)
 (hY:∀ pre x W,J pre W→pre.length<len→YieldAt F (n - 1) Tryz.prog l (encB x) W fun e W' =>
  (e=.returned (.bool true)∧J (pre++[x]) W'∧KpB n₀ Bs W W')∨(e=.returned (.bool false)∧Jx (pre++[x]) W'))
 (W:World) (hBs:W.cell? ⟨Bs,0,none⟩=some (.slice (some ⟨b,off,none⟩) len cap))
 (hc:∀ j,j<len→W.cell? ⟨b,off+j * 2,none⟩=some (.int .i64 ((z j).1:Int))∧W.cell? ⟨b,off+j * 2+1,none⟩=some (.int .i64 ((z j).2:Int))) (h0:J [] W) :
 CallsIn F n Tryz.prog 142 #[.func (.yield l) #[] #[],.pointer (some ⟨Bs,0,none⟩)] W fun e W'=>(∃ v,e=.returned v) ∧
  ((∃ ys,ys=upto (fun j=>(len - 1 - j,z (len - 1 - j))) len∧J ys W')∨(∃ pre,(∃ k,k≤len∧pre=upto (fun j=>(len - 1 - j,z (len - 1 - j))) k)∧Jx pre W')):=by
 refine callsIn_of_wp Tryz.func142 rfl h7 ?_ hro
 simp only [Tryz.ntmps142,List.size_toArray,List.length_cons,List.length_nil,Nat.reduceAdd,Nat.reduceSub,Array.replicate_succ,Array.replicate_zero,List.push_toArray,List.append_toArray,List.nil_append,List.cons_append]
 gi_wp2
 gi_loopw [3] (fun i wr=>∃ k:Nat,k≤len∧i=.int .i64 ((len:Int) - 1 - k)∧J (upto (fun j=>(len - 1 - j,z (len - 1 - j))) k) wr∧KpB n₀ Bs W wr)
  (fun i _=>(intOf i+1).toNat)
 case atStart =>
  exact ⟨0,Nat.zero_le _,by simp,h0,KpB.refl _ _ _⟩
 case round =>
  obtain ⟨k,hk,rfl,hJs,hnx⟩:=hrel
  by_cases hlt:k<len
  ·obtain ⟨fn,tmps,assign,body,hy,hR⟩:=hY _ (len - 1 - k,z (len - 1 - k)) wr hJs (by rw [QsD]; exact hlt)
   dsimp only [encB] at hy
   have hBs':=hnx.cellB.trans hBs
   have hcx:=hc (len - 1 - k) (by omega)
   have hc1:=(hnx.1.cell (p:=⟨b,off+(len - 1 - k) * 2,none⟩) hb).trans hcx.1
   have hc2:=(hnx.1.cell (p:=⟨b,off+(len - 1 - k) * 2+1,none⟩) hb).trans hcx.2
   obtain ⟨m,hm⟩:∃ m:Nat,m=len - 1 - k:=⟨_,rfl⟩
   have hi:(len:Int) - 1 - k=(m:Int):=by omega
   have hml:m<len:=by omega
   rw [hi]
   rw [← hm] at hy hR hc1 hc2
   have hm2:Unit→m=len - 1 - k:=fun _=>hm
   have hi2:Unit→(len:Int) - 1 - k=(m:Int):=fun _=>hi
   clear hm hi hcx
   gi_wp2
   refine hR.mono ?_
   rintro e W3 (⟨rfl,hJ3,hk3⟩ | ⟨rfl,hJx3⟩)
   ·gi_wp2
    go_roundw
    case rel=>exact ⟨k+1,by omega,by have:=hi2 (); congr 1; omega,by rw [QqH,← hm2 ()]; exact hJ3,hnx.trans hk3⟩
    case measure=>simp [intOf]
   ·gi_wp2
    refine bodyPost_ret (results_none rfl _ _ _) rfl ?_
    exact ⟨⟨_,rfl⟩,.inr ⟨_,⟨k+1,by omega,by rw [QqH,← hm2 ()]⟩,hJx3⟩⟩
  ·obtain rfl:k=len:=by omega
   have hi:(k:Int) - 1 - k=-1:=by omega
   rw [hi]
   gi_wp2
   go_end0
   exact ⟨⟨_,rfl⟩,.inl ⟨_,rfl,hJs⟩⟩
set_option maxRecDepth 100000 in
set_option maxHeartbeats 1000000 in
theorem Qr3 (F:Fence) (n:Nat) (h7:F.fn 142) (hro:F.round=none) (l Bs:Nat) (a:Option Addr) (cap:Nat) (J:List (Nat × (Nat × Nat))→World→Prop) (W:World) (hBs:W.cell? ⟨Bs,0,none⟩=some (.slice a 0 cap)) (h0:J [] W) :
 CallsIn F n Tryz.prog 142 #[.func (.yield l) #[] #[],.pointer (some ⟨Bs,0,none⟩)] W fun e W'=>(∃ v,e=.returned v)∧J [] W':=by
 refine callsIn_of_wp Tryz.func142 rfl h7 ?_ hro
 simp only [Tryz.ntmps142,List.size_toArray,List.length_cons,List.length_nil,Nat.reduceAdd,Nat.reduceSub,Array.replicate_succ,Array.replicate_zero,List.push_toArray,List.append_toArray,List.nil_append,List.cons_append]
 gi_wp2
 gi_loopw [3] (fun i wr=>i=.int .i64 (-1)∧J [] wr) (fun _ _=>0)
 case atStart=>exact ⟨by simp,h0⟩
 case round =>
  obtain ⟨rfl,hJs⟩:=hrel
  gi_wp2
  go_end0
  exact ⟨⟨_,rfl⟩,hJs⟩
set_option maxHeartbeats 1000000 in
theorem QJh (F:Fence) (n:Nat) (h5:F.fn 123) (hro:F.round=none) (a:Option Addr) (len cap:Nat) (w:World) :
 CallsIn F n Tryz.prog 123 #[.slice a len cap] w fun e w'=>e=.returned (.func (.func 142) #[] #[.pointer (some ⟨w.heap.size,0,none⟩)])∧w'=w.alloc (.cells #[.slice a len cap] 171):=by
 refine callsIn_of_wp Tryz.func123 rfl h5 ?_ hro
 simp only [Tryz.ntmps123,List.size_toArray,List.length_cons,List.length_nil,Nat.reduceAdd,Nat.reduceSub,Array.replicate_succ,Array.replicate_zero,List.push_toArray,List.append_toArray,List.nil_append,List.cons_append]
 gi_wp2
 go_ret
 exact ⟨rfl,rfl⟩
def BitsAt (n₀:Nat) (W:World) (sv:Value) (len:Nat) (z:Nat→Nat × Nat):Prop :=
 (∃ a cap,sv=.slice a 0 cap∧len=0)∨∃ b off cap,sv=.slice (some ⟨b,off,none⟩) len cap∧b<n₀∧∀ j,j<len→W.cell? ⟨b,off+j * 2,none⟩=some (.int .i64 ((z j).1:Int))∧W.cell? ⟨b,off+j * 2+1,none⟩=some (.int .i64 ((z j).2:Int))
variable {z:Nat→Nat × Nat} {sv:Value}
theorem BitsAt.below (h:Below n₀ A B) {len:Nat}:BitsAt n₀ A sv len z→BitsAt n₀ B sv len z
 | .inl e=>.inl e
 | .inr ⟨b,off,cap,e,hb,hc⟩=>.inr ⟨b,off,cap,e,hb,fun j hj=>⟨(h.cell (p:=⟨b,off+j * 2,none⟩) hb).trans (hc j hj).1,(h.cell (p:=⟨b,off+j * 2+1,none⟩) hb).trans (hc j hj).2⟩⟩
theorem BitsAt.wide {n₁:Nat} (h:n₀≤n₁) {len:Nat}:BitsAt n₀ A sv len z→BitsAt n₁ A sv len z
 | .inl e=>.inl e
 | .inr ⟨b,off,cap,e,hb,hc⟩=>.inr ⟨b,off,cap,e,Nat.lt_of_lt_of_le hb h,hc⟩
theorem Qv2 (F:Fence) (n:Nat) (h8:F.fn 142) (hro:F.round=none) (hn:1≤n) (Bs n₀:Nat) (sv:Value) (len:Nat) (hlen:len≤1000) (z:Nat→Nat × Nat) (w:World) (hBs:Bs<w.heap.size) (hn₀:n₀≤w.heap.size)
 (hc:w.cell? ⟨Bs,0,none⟩=some sv) (hI:BitsAt n₀ w sv len z) :
 SeqStopsK F n Tryz.prog 142 #[.pointer (some ⟨Bs,0,none⟩)] encB (KpB n₀ Bs) (fun ys=>ys=upto (fun j=>(len - 1 - j,z (len - 1 - j))) len)
  (fun pre=>∃ k,k≤len∧pre=upto (fun j=>(len - 1 - j,z (len - 1 - j))) k) len w:=fun l J Jx W hW _ _ hY h0=>by
 have hc':=(hW.cell (p:=⟨Bs,0,none⟩) hBs).trans hc
 rcases hI.below (hW.mono hn₀) with ⟨a,cap,rfl,rfl⟩ | ⟨b,off,cap,rfl,hb,hcs⟩
 ·exact (Qr3 F n h8 hro l Bs a cap J W hc' h0).mono fun e W' ⟨he,hj⟩=>⟨he,.inl ⟨_,rfl,hj⟩⟩
 ·exact QBl F n h8 hro hn l Bs n₀ b off len cap z hlen hb J Jx hY W hc' hcs h0
attribute [local go_sem] Oper.semAt_some
theorem QJm (W:World) (u v:Value) (t:TypeId):(W.alloc (.cells #[u,v] t)).cell? ⟨W.heap.size,0,none⟩=some u:=by
 unfold World.cell?; rw [World.alloc_heap_new]; rfl
theorem QJl (W:World) (u v:Value) (t:TypeId):(W.alloc (.cells #[u,v] t)).cell? ⟨W.heap.size,1,none⟩=some v:=by
 unfold World.cell?; rw [World.alloc_heap_new]; rfl
def QzW (y:Nat × (Nat × Nat)):Int:=IntKind.i64.wrap (IntKind.i64.wrap (2 ^ min y.2.2 64) - 1)
def QsO (p:Int) (y:Nat × (Nat × Nat)):Int:=bits .and .i64 p (QzW y)
def Qnl (p:Int × Int) (y:Nat × (Nat × Nat)):Int × Int :=
 (bits .or .u32 p.1 (IntKind.u32.wrap (IntKind.u32.wrap (QsO p.2 y) * 2 ^ min y.2.1 32)),p.2 / 2 ^ min y.2.2 64)
def spB (x:Int) (l:List (Nat × (Nat × Nat))):Int × Int:=l.foldl Qnl (0,x)
theorem Quc (x:Int) (l:List (Nat × (Nat × Nat))) (y:Nat × (Nat × Nat)):spB x (l++[y])=Qnl (spB x l) y:=by simp [spB]
set_option maxRecDepth 100000 in
set_option maxHeartbeats 2000000 in
theorem QxE (n:Nat) (hn:3≤n) (b1 b2 b3 b4:Value) (a:Option Addr) (len cap zn:Nat) (m x:Int) (hz:zn≤30) (z:Nat→Nat × Nat) (hlen:len≤1000) (w:World) (hI:BitsAt w.heap.size w (.slice a len cap) len z) :
 CallsIn Fence.wide n Tryz.prog 99 #[.agg #[b1,b2,b3,.slice a len cap,.int .i64 (zn:Int),b4,.int .u32 m],.int .i64 x] w fun e W'=>e=.returned (.int .u32 (spB (x / 2 ^ zn) (upto (fun j=>(len - 1 - j,z (len - 1 - j))) len)).1)∧Below w.heap.size w W':=by
 have h1:1≤n:=by omega
 have hro:Fence.wide.round=none:=rfl
 have h3:Fence.wide.fn 99:=trivial
 have h5:Fence.wide.fn 123:=trivial
 have h7:Fence.wide.fn 142:=trivial
 refine callsIn_of_wp_marks Tryz.func99 rfl h3 ?_ hro
 simp only [Tryz.ntmps99,List.size_toArray,List.length_cons,List.length_nil,Nat.reduceAdd,Nat.reduceSub,Array.replicate_succ,Array.replicate_zero,List.push_toArray,List.append_toArray,List.nil_append,List.cons_append]
 gi_wp2_with (gi_at_call 123; refine (QJh Fence.wide (n - 1) h5 hro _ _ _ _).mono ?_; rintro e w' ⟨rfl,rfl⟩)
 have bN:=((Boxed.new (w.alloc (.cells #[b1,b2,b3,Value.slice a len cap,Value.int IntKind.i64 ↑zn,b4,Value.int IntKind.u32 m] 173)) 2 (.int .i64 (x / 2 ^ zn))).alloc (.cells #[.int .u32 0] 131)).alloc (.cells #[.slice a len cap] 171)
 have bW:=(Boxed.new ((w.alloc (.cells #[b1,b2,b3,Value.slice a len cap,Value.int IntKind.i64 ↑zn,b4,Value.int IntKind.u32 m] 173)).alloc (.cells #[.int .i64 (x / 2 ^ zn)] 2)) 131 (.int .u32 0)).alloc (.cells #[.slice a len cap] 171)
 have bS:=Boxed.new (((w.alloc (.cells #[b1,b2,b3,Value.slice a len cap,Value.int IntKind.i64 ↑zn,b4,Value.int IntKind.u32 m] 173)).alloc (.cells #[.int .i64 (x / 2 ^ zn)] 2)).alloc (.cells #[.int .u32 0] 131)) 171 (.slice a len cap)
 simp only [World.size_alloc] at bN bW bS
 have hB0:Below w.heap.size w ((((w.alloc (.cells #[b1,b2,b3,Value.slice a len cap,Value.int IntKind.i64 ↑zn,b4,Value.int IntKind.u32 m] 173)).alloc (.cells #[.int .i64 (x / 2 ^ zn)] 2)).alloc (.cells #[.int .u32 0] 131)).alloc (.cells #[.slice a len cap] 171)):=((((Below.refl _ w).alloc (Nat.le_refl _) _).alloc (by simp) _).alloc (by simp; omega) _).alloc (by simp; omega) _
 have hsz:((((w.alloc (.cells #[b1,b2,b3,Value.slice a len cap,Value.int IntKind.i64 ↑zn,b4,Value.int IntKind.u32 m] 173)).alloc (.cells #[.int .i64 (x / 2 ^ zn)] 2)).alloc (.cells #[.int .u32 0] 131)).alloc (.cells #[.slice a len cap] 171)).heap.size=w.heap.size+4:=by simp
 obtain ⟨W0,hW0⟩:∃ W0,((((w.alloc (.cells #[b1,b2,b3,Value.slice a len cap,Value.int IntKind.i64 ↑zn,b4,Value.int IntKind.u32 m] 173)).alloc (.cells #[.int .i64 (x / 2 ^ zn)] 2)).alloc (.cells #[.int .u32 0] 131)).alloc (.cells #[.slice a len cap] 171))=W0:=⟨_,rfl⟩
 rw [hW0] at bN bW bS hB0 hsz ⊢
 clear hW0
 refine wpIn_rangeFunc_ownH hro h1 (gf:=142) (lb:=#[.pointer (some ⟨w.heap.size+1+1+1,0,none⟩)]) rfl h7 (enters_of Tryz.func142 (by kernel_rfl) rfl)
  (Qv2 Fence.wide (n - 1) h7 hro (by omega) (w.heap.size+1+1+1) w.heap.size (.slice a len cap) len hlen z W0 (by omega) (by omega) bS.cell (hI.below hB0)) (fun h k=>h.trans k) (fun W l o o' hl h1 h2 h3=>⟨belowK_b (w:=W0) (by omega) W l o o' hl h1 h2 h3,World.putObj_heap_other (by omega)⟩) (Below.refl _ _) (fun _=>rfl)
  (fun pre W=>(Boxed W (w.heap.size+1) 2 (.int .i64 (spB (x / 2 ^ zn) pre).2)∧Boxed W (w.heap.size+1+1) 131 (.int .u32 (spB (x / 2 ^ zn) pre).1))∧Below w.heap.size W0 W)
  (fun _ _ _=>False)
  (OwnFrom.and (OwnFrom.and (Own.from (boxed_own _ _ _) _) (Own.from (boxed_own _ _ _) _)) (ownFrom_below (by omega) (by omega)))
  (fun _ _ _ _ _ hs _ _=>hs)
  ⟨⟨bN,bW⟩,Below.refl _ _⟩
  (fun y a' W=>∃ Bx,w.heap.size+1+1<Bx∧W.cell? ⟨Bx,0,none⟩=some (.int .i64 (y.2.1:Int))∧W.cell? ⟨Bx,1,none⟩=some (.int .i64 (y.2.2:Int))∧a'={
   tmps :=
    #[Value.agg #[b1,b2,b3,Value.slice a len cap,Value.int IntKind.i64 ↑zn,b4,Value.int IntKind.u32 m],
      Value.int IntKind.i64 x,Value.pointer (some { block:=w.heap.size,off:=0 }),
      Value.pointer (some { block:=w.heap.size+1,off:=0 }),Value.int IntKind.u32 0,
      Value.pointer (some { block:=w.heap.size+1+1,off:=0 }),undef,Value.pointer (some { block:=Bx,off:=0 }),Value.int IntKind.i64 x,
      Value.pointer (some { block:=w.heap.size,off:=4 }),Value.int IntKind.i64 ↑zn,
      Value.int IntKind.i64 (x / 2 ^ zn),Value.pointer (some { block:=w.heap.size,off:=3 }),
      Value.slice a len cap,
      Value.func (Fn.func 142) #[] #[Value.pointer (some { block:=w.heap.size+1+1+1,off:=0 })],.int .i64 (y.1:Int),.agg #[.int .i64 (y.2.1:Int),.int .i64 (y.2.2:Int)],
      undef,undef,undef,undef,undef,undef,undef,undef,undef,undef,undef,undef,undef,undef,
      undef,undef,undef],
   defers:=[] })
  (fun y a' _ X Y row hs hg hr=>by obtain ⟨Bx,g1,g2,g3,g4⟩:=hs; exact ⟨Bx,g1,cell_kept g2 hg (fun r e=>(hr r e).2),cell_kept g3 hg (fun r e=>(hr r e).2),g4⟩)
  ?assign ?body ?done ?stop
 case assign =>
  rintro l pre y W K ⟨⟨bN1,bW1⟩,hB1⟩ hK
  gi_wp2
  exact hK _ _ ((KeepsOthers.alloc _ _).from _) ⟨(Below.refl _ W).alloc (by have:=hB1.size; omega) _,Below.heap_alloc W _ _ (by have:=hB1.size; omega)⟩ ⟨⟨bN1.alloc _,bW1.alloc _⟩,hB1.alloc (by have:=hB1.size; omega) _⟩ ⟨W.heap.size,bW1.lt,QJm W _ _ _,QJl W _ _ _,rfl⟩
 case body =>
  rintro l pre y a' W hl ⟨r,hr⟩ ⟨⟨bN1,bW1⟩,hB1⟩ ⟨Bx,hBx,c1,c2,rfl⟩ hlt
  have cN:=bN1.cell
  have cW:=bW1.cell
  have fN:=bN1.frozen
  have fW:=bW1.frozen
  gi_wp2
  refine Am.wpIn_draw (kd:=fun j=>[0,0,3,0,3,3,3,3,3,0,3,3,2].getD j 1)
   (t:=.rd 0 (.rd 1 (.pu 2 (.rd 3 (.pu 4 (.pu 5 (.pu 6 (.pu 7 (.pu 8 (.rd 9 (.pu 10 (.pu 11 (.op 12 false .done))))))))))))) (by kernel_rfl) (by kernel_rfl) (Am.drawN_ok (by kernel_rfl))
   (S:=⟨⟨fun b o=>(b=w.heap.size+1+1∧o=0)∨(b=w.heap.size+1∧o=0)∨(b=Bx∧(o=0∨o=1)),fun _=>False⟩,⟨fun _ _=>False,fun _=>False⟩⟩) ?_
  have k1:∀ w',Am.Ek ⟨fun b o=>(b=w.heap.size+1+1∧o=0)∨(b=w.heap.size+1∧o=0)∨(b=Bx∧(o=0∨o=1)),fun _=>False⟩ W.drew w'→w'.cell? ⟨w.heap.size+1+1,0,none⟩=some (.int .u32 (spB (x / 2 ^ zn) pre).1):=fun w' hk=>(hk.cells _ _ (.inl ⟨rfl,rfl⟩)).trans cW
  have k2:∀ w',Am.Ek ⟨fun b o=>(b=w.heap.size+1+1∧o=0)∨(b=w.heap.size+1∧o=0)∨(b=Bx∧(o=0∨o=1)),fun _=>False⟩ W.drew w'→w'.cell? ⟨w.heap.size+1,0,none⟩=some (.int .i64 (spB (x / 2 ^ zn) pre).2):=fun w' hk=>(hk.cells _ _ (.inr (.inl ⟨rfl,rfl⟩))).trans cN
  have k3:∀ w',Am.Ek ⟨fun b o=>(b=w.heap.size+1+1∧o=0)∨(b=w.heap.size+1∧o=0)∨(b=Bx∧(o=0∨o=1)),fun _=>False⟩ W.drew w'→w'.cell? ⟨Bx,0,none⟩=some (.int .i64 (y.2.1:Int)):=fun w' hk=>(hk.cells _ _ (.inr (.inr ⟨rfl,.inl rfl⟩))).trans c1
  have k4:∀ w',Am.Ek ⟨fun b o=>(b=w.heap.size+1+1∧o=0)∨(b=w.heap.size+1∧o=0)∨(b=Bx∧(o=0∨o=1)),fun _=>False⟩ W.drew w'→w'.cell? ⟨Bx,1,none⟩=some (.int .i64 (y.2.2:Int)):=fun w' hk=>(hk.cells _ _ (.inr (.inr ⟨rfl,.inr rfl⟩))).trans c2
  refine ⟨_,.int .u32 (spB (x / 2 ^ zn) pre).1,rfl,.inl ⟨rfl,fun w' hk=>?_⟩,?_⟩
  ·simp [go_sem,k1 w' hk]
  refine ⟨_,.int .i64 (spB (x / 2 ^ zn) pre).2,rfl,.inl ⟨rfl,fun w' hk=>?_⟩,?_⟩
  ·simp [go_sem,k2 w' hk]
  refine ⟨_,.pointer (some ⟨Bx,1,none⟩),rfl,.inl ⟨rfl,fun w' hk=>?_⟩,?_⟩
  ·simp [go_sem]
  refine ⟨_,.int .i64 (y.2.2:Int),rfl,.inl ⟨rfl,fun w' hk=>?_⟩,?_⟩
  ·simp [go_sem,k4 w' hk]
  refine ⟨_,.int .i64 (IntKind.i64.wrap (2 ^ min y.2.2 64)),rfl,.inl ⟨rfl,fun w' hk=>?_⟩,?_⟩
  ·simp [go_sem]
  refine ⟨_,.int .i64 (QzW y),rfl,.inl ⟨rfl,fun w' hk=>?_⟩,?_⟩
  ·simp [go_sem,QzW]
  refine ⟨_,.int .i64 (QsO (spB (x / 2 ^ zn) pre).2 y),rfl,.inl ⟨rfl,fun w' hk=>?_⟩,?_⟩
  ·simp [go_sem,QsO]
  refine ⟨_,.int .u32 (IntKind.u32.wrap (QsO (spB (x / 2 ^ zn) pre).2 y)),rfl,.inl ⟨rfl,fun w' hk=>?_⟩,?_⟩
  ·simp [go_sem]
  refine ⟨_,.pointer (some ⟨Bx,0,none⟩),rfl,.inl ⟨rfl,fun w' hk=>?_⟩,?_⟩
  ·simp [go_sem]
  refine ⟨_,.int .i64 (y.2.1:Int),rfl,.inl ⟨rfl,fun w' hk=>?_⟩,?_⟩
  ·simp [go_sem,k3 w' hk]
  refine ⟨_,.int .u32 (IntKind.u32.wrap (IntKind.u32.wrap (QsO (spB (x / 2 ^ zn) pre).2 y) * 2 ^ min y.2.1 32)),rfl,.inl ⟨rfl,fun w' hk=>?_⟩,?_⟩
  ·simp [go_sem]
  refine ⟨_,.int .u32 (Qnl (spB (x / 2 ^ zn) pre) y).1,rfl,.inl ⟨rfl,fun w' hk=>?_⟩,?_⟩
  ·simp [go_sem,Qnl]
  have cW':W.drew.cell? ⟨w.heap.size+1+1,0,none⟩=some (.int .u32 (spB (x / 2 ^ zn) pre).1):=cW
  have fW':W.drew.frozen? ⟨w.heap.size+1+1,0,none⟩=false:=fW
  refine Am.opN_skip (w':=W.drew.setCell ⟨w.heap.size+1+1,0,none⟩ (.int .u32 (Qnl (spB (x / 2 ^ zn) pre) y).1)) rfl rfl ?_ ?_
  ·simp [go_sem,cW',fW']
  ·refine ⟨⟨⟨fun b o=>(b=w.heap.size+1+1∧o=0)∨(b=w.heap.size+1∧o=0)∨(b=Bx∧(o=0∨o=1)),fun _=>False⟩,⟨fun _ _=>False,fun _=>False⟩⟩,⟨Am.Sg.le.refl _,⟨rfl,rfl,rfl,by simp,fun _ _ h=>h.elim,fun _ h=>h.elim⟩⟩,fun h=>by (cases h),?_⟩
   obtain ⟨W2,hW2⟩:∃ W2,W.drew.setCell ⟨w.heap.size+1+1,0,none⟩ (.int .u32 (Qnl (spB (x / 2 ^ zn) pre) y).1)=W2:=⟨_,rfl⟩
   have bW2:Boxed W2 (w.heap.size+1+1) 131 (.int .u32 (Qnl (spB (x / 2 ^ zn) pre) y).1):=by rw [← hW2]; exact Boxed.set _ (show Boxed W.drew _ _ _ from bW1)
   have bN2:Boxed W2 (w.heap.size+1) 2 (.int .i64 (spB (x / 2 ^ zn) pre).2):=by rw [← hW2]; exact Boxed.other (show Boxed W.drew _ _ _ from bN1) (by omega) _
   have c22:W2.cell? ⟨Bx,1,none⟩=some (.int .i64 (y.2.2:Int)):=by
    rw [← hW2]
    have:(W.drew.setCell ⟨w.heap.size+1+1,0,none⟩ (.int .u32 (Qnl (spB (x / 2 ^ zn) pre) y).1)).heap[Bx]?=W.drew.heap[Bx]?:=(grownBy_setCell' W.drew _ _).block Bx (by
     have:=c2; unfold World.cell? at this; split at this
     ·rename_i hh; exact (Array.getElem?_eq_some_iff.1 hh).1
     ·cases this) (fun e=>by cases e; omega)
    exact (Am.cell?_of_old (a:=⟨Bx,1,none⟩) this).trans c2
   have hK2:KeepsFrom W0.heap.size W W2:=by rw [← hW2]; exact (KeepsOthers.drew W).trans (KeepsOthers.setCell _ _ _) |>.from _
   have hB2:KpB w.heap.size (w.heap.size+1+1+1) W W2:=by
    rw [← hW2]
    exact ⟨(Below.refl _ W).drew.setCell (p:=⟨w.heap.size+1+1,0,none⟩) (by show w.heap.size≤w.heap.size+1+1; omega) _,(grownBy_setCell' W.drew _ _).block (w.heap.size+1+1+1) (by have:=hB1.size; show _<W.heap.size; omega) (fun e=>by have:=Option.some.inj e; omega)⟩
   rw [hW2]
   clear hW2
   have cN2:=bN2.cell
   have fN2:=bN2.frozen
   simp only [Am.RTree]
   gi_wp2
   refine ⟨hK2.trans ((KeepsOthers.setCell _ _ _).from _),hB2.trans ⟨(Below.refl _ W2).setCell (p:=⟨w.heap.size+1,0,none⟩) (by simp) _,(grownBy_setCell' W2 _ _).block (w.heap.size+1+1+1) (by have:=hB1.size; have:=hB2.1.size; omega) (fun e=>by have:=Option.some.inj e; omega)⟩,⟨?_,?_⟩,?_⟩
   ·rw [Quc]; exact bN2.set _
   ·rw [Quc]; exact Boxed.other bW2 (by omega) _
   ·exact (hB1.trans hB2.1).setCell (p:=⟨w.heap.size+1,0,none⟩) (by simp) _
 case done =>
  rintro D ys W hD rfl ⟨⟨bN1,bW1⟩,hB1⟩ hK
  have cW:=bW1.cell
  gi_wp2
  refine ⟨by simp,.inl ⟨_,_,rfl,run_takeDeferred hK,?_⟩⟩
  exact ⟨_,results_tmp rfl _ _ _,rfl,(hB0.trans hB1).trans (belowK_b (w:=w) (Nat.le_refl _) W D _ _ (by omega) hK rfl rfl)⟩
 case stop =>
  rintro D c pre W _ _ h _
  exact h.elim
end Go.Proofs.YtfgccihafnjalaaGreatDoor
