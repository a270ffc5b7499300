/- The iterator that counts down: walked by the kit's tactics. -/
import Derived.Test.YtingdebioipemaaProg
import Derived.WalkKit
import Derived.RangeFuncIn
import Derived.RangeFuncNested
import Derived.RangeFuncBound
import Derived.RangeFuncCalls
import Derived.RangeFuncLeaves
import Derived.Shelf.Abstract
import Derived.Shelf.RegionOpen
import Derived.OwnWalkIn
import Derived.TacticsInMore
import Derived.LoopNIn
import Derived.LoopIn
import Derived.RangeFuncSeq
import Derived.RangeFuncOwn
import Derived.Below
import Derived.Test.YtingdebioipemaaAmD
namespace Go.Proofs.Ytingdebioipemaa
open Go Go.Proofs Go.RowKit Go.Shelf
attribute [local go_sem] Oper.semAt_some
set_option maxRecDepth 100000 in
set_option maxHeartbeats 2000000 in
theorem QqT (n:Nat) (h1:1≤n) (hn:n≤1000) (b o m l:Nat) (JJ:Nat→World→Prop) (W:World) (hBF:∀ k W,JJ k W→W.cell? ⟨b,o,none⟩=some (.int .i64 n))
 (hY:∀ k W1,k<n - 1→JJ k W1→YieldAt Fence.wide m Try.prog l #[.int .i64 ((n - 2 - k:Nat):Int)] W1 fun e W'=>e=.returned (.bool true)∧JJ (k+1) W') (h0:JJ 0 W) :
 CallsIn Fence.wide (m+1) Try.prog 48 #[.func (.yield l) #[] #[],.pointer (some ⟨b,o,none⟩)] W fun e W'=>(∃ v,e=.returned v)∧JJ (n - 1) W':=by
 have hro:Fence.wide.round=none:=rfl
 have h7:Fence.wide.fn 48:=trivial
 have hm1:1≤m+1:=by omega
 refine callsIn_of_wp Try.func48 rfl h7 ?_ hro
 simp only [Try.ntmps48,List.size_toArray,List.length_cons,List.length_nil,Nat.reduceAdd,Nat.reduceSub,Array.replicate_succ,Array.replicate_zero,List.push_toArray,List.append_toArray,List.nil_append,List.cons_append]
 have hc:=hBF _ _ h0
 gi_wp2
 gi_loopw [3] (fun i wr=>∃ k:Nat,k≤n - 1∧i=.int .i64 ((n:Int) - 2 - k)∧JJ k wr)
  (fun i _=>(intOf i+1).toNat)
 case atStart =>
  exact ⟨0,Nat.zero_le _,by simp,h0⟩
 case round =>
  obtain ⟨k,hk,rfl,hJs⟩:=hrel
  by_cases hlt:k<n - 1
  ·obtain ⟨fn,tmps,assign,body,hy,hR⟩:=hY k wr hlt hJs
   obtain ⟨j,hj⟩:∃ j:Nat,j=n - 2 - k:=⟨_,rfl⟩
   have hi:(n:Int) - 2 - k=(j:Int):=by omega
   rw [hi]
   rw [← hj] at hy
   have hj2:Unit→j=n - 2 - k:=fun _=>hj
   have hi2:Unit→(n:Int) - 2 - k=(j:Int):=fun _=>hi
   have hjl:j≤1000:=by omega
   clear hj hi
   gi_wp2
   refine hR.mono ?_
   rintro e W3 ⟨rfl,hJ3⟩
   gi_wp2
   go_roundw
   case rel=>exact ⟨k+1,by omega,by have:=hi2 (); congr 1; omega,hJ3⟩
   case measure=>simp [intOf]
  ·obtain rfl:k=n - 1:=by omega
   have hi:(n:Int) - 2 - ((n - 1:Nat):Int)=-1:=by omega
   rw [hi]
   gi_wp2
   refine ⟨fun f h=>(by cases h),?_⟩
   gi_wp2
   go_end0
   exact ⟨⟨_,rfl⟩,hJs⟩
end Go.Proofs.Ytingdebioipemaa
