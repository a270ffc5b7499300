/- The library's Delete, of one element that is not the last: walked by the kit's tactics. -/
import Derived.Test.YtingdebioipemaaShD
import Derived.Shelf.SlicesE.Kit
import Derived.Shelf.RegionOpenPlain
import Derived.WalkKit
import Derived.Deep.LoopGhost
import Derived.Deep.RegionLaw
import Derived.Lib.Walk
import Derived.Sort.WalkB12
import Derived.Lib.SliceRun
import Derived.Lib.SlicesDelete
namespace Go.Proofs.Ytingdebioipemaa
open Go Go.Shelf Go.RowKit Go.Lib Go.Sort
variable {α:Type} [Inhabited α]
set_option maxRecDepth 1000000 in
theorem w_del (enc:α→Value) (h1:OneCell enc) (zr:α) (v23:∀ w,(zeroValue 25).run Try.prog w=.ok (enc zr) w) (i0:TypeInfo) (hi0:Try.prog.info? 25=some i0) (hz1:i0.size=1) (blk off cap i:Nat) (d:Array α) (w:World) (hH:Holds enc w blk off d) (hcap:d.size≤cap) (hm:d.size≤100000) (hi:i+1<d.size) :
 Calls Try.prog 28 #[.slice (some ⟨blk,off,none⟩) d.size cap,.int .i64 i,.int .i64 (i+1)] w fun e w'=>e=.returned (.slice (some ⟨blk,off,none⟩) (d.size - 1) cap)∧∃ q,w'=putRow enc (Sort.ahead w q) blk off (d.toList.take i++d.toList.drop (i+1)++[zr]).toArray:=by
 obtain ⟨m,hmd⟩:∃ m,m=d.size - (i+1):=⟨_,rfl⟩
 -- what moves to the left, and the worlds after the two writings
 have p1:∀ x:Nat,x<m→((d.toList.drop (i+1)).map enc)[x]?=some (enc d[i+1+x]!):=fun x hx=>by
  rw [List.getElem?_map,List.getElem?_drop,Array.getElem?_toList,getElem!_pos d _ (by omega),Array.getElem?_eq_getElem (by omega)]; rfl
 have pl:((d.toList.drop (i+1)).map enc).length=m:=by simp; omega
 generalize hN:(d.toList.drop (i+1)).map enc=N at p1 pl
 have a1:Hid (N.length=m * 1):=by rw [Nat.mul_one]; exact pl
 have a2:Hid (∀ u∈N,u.oneCell'=true):=fun u hu=>by
  rw [← hN] at hu
  obtain ⟨x,_,rfl⟩:=List.mem_map.1 hu
  exact h1 x
 have a3:Hid (∀ j u,N[j]?=some u→w.drew.cell? ((⟨blk,off+(i+1),none⟩:Addr).add j)=some u):=fun j u hu=>by
  have hj:j<m:=pl▸(List.getElem?_eq_some_iff.1 hu).1
  rw [p1 j hj] at hu
  rw [Addr.add_lit,show off+(i+1)+j=off+(i+1+j) by omega]
  exact (hH (i+1+j) (by omega)).1.trans hu
 have a4:Hid (∀ j,j<N.length→(w.drew.cell? ⟨blk,off+i * 1+j,none⟩).isSome=true∧w.drew.frozen? ⟨blk,off+i * 1+j,none⟩=false):=fun j hj=>by
  rw [Nat.mul_one,Nat.add_assoc]
  refine ⟨?_,(hH (i+j) (by omega)).2⟩
  show (w.cell? _).isSome=true
  rw [(hH (i+j) (by omega)).1]; rfl
 obtain ⟨U,hU⟩:∃ U,w.drew.setCells blk (off+i * 1) N=U:=⟨_,rfl⟩
 have e1:U=putRow enc (Sort.ahead w 1) blk off (lay d i (d.toList.drop (i+1))):=by
  rw [← hU,← hN,Nat.mul_one,← putRow_setCells enc (Sort.ahead w 1) blk off _ d i (by simp; omega),putRow_self enc (Sort.ahead w 1) blk off d (holds_ahead enc w 1 blk off d hH)]; rfl
 have hHU:Holds enc U blk off (lay d i (d.toList.drop (i+1))):=e1▸holds_putRow enc _ blk off d _ (holds_ahead enc w 1 blk off d hH) (lay_size _ _ _)
 have hcl:∀ ty,(Builtin.clear_ #[22] ty #[.slice (some ⟨blk,off+(i+m),none⟩) (d.size - (i+m)) (cap - (i+m))]).run Try.prog U=.ok (.tuple #[]) (U.setCells blk (off+(i+m)) (List.replicate (d.size - (i+m)) (enc zr))):=fun ty =>
  Lib.run_clear_slice U _ 25 ty _ Try.underlying22 v23 (h1.cells zr) (h1 zr) blk _ _ _ (by omega)
   (fun t ht=>by rw [show off+(i+m)+t=off+(i+m+t) by omega,(hHU _ (by rw [lay_size]; omega)).1]; rfl)
   (fun t ht=>by rw [show off+(i+m)+t=off+(i+m+t) by omega]; exact (hHU _ (by rw [lay_size]; omega)).2)
 have keep:Aside (U=putRow enc (Sort.ahead w 1) blk off (lay d i (d.toList.drop (i+1)))):=e1
 have hV:Hid (w.drew.setCells blk (off+i * 1) N=U):=hU
 have q1:((i:Int)+(m:Int)).toNat=i+m:=by omega
 have q2:IntKind.i64.wrap ((i:Int)+(m:Int))=(i:Int)+m:=by rw [IntKind.wrap_i64]; omega
 have q3:¬ cap=i+1:=by omega
 have q4:cap - (i+1)≠0:=by omega
 have mixed:=Try.laysDelete.mixed
 have c1:i≤cap:=by omega
 have c2:i+1≤cap:=by omega
 have c3:(0:Int)≤(i:Int)+1:=by omega
 have c4:(i:Int)+1≤(d.size:Int):=by omega
 clear hU e1 hHU hH hN p1 pl
 subst hmd
 go_enter Try.func28,Try.ntmps28
 go_wp2_with fail
 go_region_law_o (refine step_append_room rfl (.tmp 22) (.tmp 25) 22 rfl 25 i0 1 Try.underlying22 hi0 hz1 blk off i cap (by simp [Act.eval,Act.put]) ⟨blk,off+(i+1),none⟩ (d.size - (i+1)) (cap - (i+1)) N (by simp [Act.eval,Act.put]) a1.out a3.out a2.out (by omega) a4.out ?_; rw [hV.out])
 go_wp2
 go_ret
 refine ⟨by rw [show d.size - 1=i+(d.size - (i+1)) by omega]; rfl,1,?_⟩
 have e:=delete_arr d i (i+1) zr (by omega) (by omega)
 rw [show i+1 - i=1 by omega] at e
 rw [show List.replicate 1 zr=[zr] from rfl] at e
 rw [← e,← putRow_setCells enc _ blk off _ _ (i+(d.size - (i+1))) (by rw [lay_size]; simp; omega),← keep.out,show d.size - (i+(d.size - (i+1)))=1 by omega]
 rfl
