/- The library's sort, as the walks ask of it. -/
import Derived.Test.YtingdebioipemaaGreatDoorSh1
import Derived.Shelf.SlSortCmp.NoneTotal
import Derived.Test.YtingdebioipemaaGreatDoorShF
import Derived.Test.YtingdebioipemaaGreatDoorJ2
namespace Go.Proofs.YtingdebioipemaaGreatDoor
open Go Go.Am Go.Cl Go.Sort
set_option maxRecDepth 100000
theorem QAr {zs:List Int} {d':Array Int} (h:PermIn 0 zs.toArray.size zs.toArray d'):d'.toList.Perm zs:=by
 obtain ⟨h1,_,h3⟩:=h
 have e1:d'.extract 0 zs.toArray.size=d':=by rw [← h1]; simp
 have e2:zs.toArray.extract 0 zs.toArray.size=zs.toArray:=by simp
 rw [e1,e2] at h3
 exact h3
theorem QrR {lt:Int→Int→Bool} {zs:List Int} {d':Array Int} (h:PermIn 0 zs.toArray.size zs.toArray d') (hs:SortedIn lt 0 zs.toArray.size d'):d'.toList.Pairwise fun a b=>lt b a=false:=by
 rw [List.pairwise_iff_getElem]
 intro i j hi hj hij
 have hj':j<d'.size:=by simpa using hj
 have hi':i<d'.size:=by simpa using hi
 have:=hs i j (Nat.zero_le _) hij (by rw [← h.1]; exact hj')
 rw [getElem!_pos d' j hj',getElem!_pos d' i hi'] at this
 simpa using this
theorem mk_av {n:Int} (h:-16777216≤n∧n≤16777216):mk n=av n:=by
 have e:RowKit.wrap64 (-n)=-n:=by
  unfold RowKit.wrap64; omega
 unfold mk av
 rw [e]
 split <;> omega
theorem _root_.List.set_getElem?_self {α:Type} {l:List α} {k:Nat} {x:α} (h:l[k]?=some x):l.set k x=l:=by
 obtain ⟨h1,h2⟩:=List.getElem?_eq_some_iff.1 h
 rw [← h2,List.set_getElem_self]
theorem QAh {G:Nat→Option V}:SortU Tryz.prog G:=fun base k v t o zs hb ho ho1 hbd hl=>by
 by_cases hz:zs=[]
 ·subst hz
  refine (Qon (fun p cap w=>AnyF.slices_SortFunc_none { Tryz.laysSortF with } p cap _ w)).conseq fun r σ' hr=>?_
  obtain ⟨rfl,rfl⟩:=hr
  refine ⟨rfl,t,Nat.le_refl _,?_⟩
  rw [show ints (Qbb [])=ints [] from rfl,List.set_getElem?_self ho]
 ·refine (Qtn (zs':=Qbb zs) hb ho hz (Z3 zs) fun blk off cap w hH hblk=>?_).conseq fun r σ' hr=>?_
  ·have h:=Any.slices_SortFunc Tryz.laysSortF (Value.int .i64) (fun _=>rfl) cfU swoU QbX #[] blk off cap zs.toArray w (enters_of Tryz.func54 (by kernel_rfl) rfl)
    (CmpReads.lays fun _ _ _ _ x y=>w_S4 x y _) hH hblk (by simp; omega)
   refine h.mono fun e w' ⟨he,d',n,os,hp,hs,hw⟩=>⟨he,n,os,?_⟩
   have hperm:=QAr hp
   have hsort:=QrR hp hs
   have key:d'=(Qbb zs).toArray:=by
    have:d'.toList=Qbb zs:=by
     refine QnL ho1 ?_ fun n=>hperm.mem_iff
     have honce:Once d'.toList:=(hperm.pairwise_iff (R:=fun a b:Int=>av a≠av b) (fun h=>h.symm)).2 ho1
     refine (List.pairwise_and_iff.2 ⟨hsort,honce⟩).imp_of_mem fun {a b} ha hb hh=>?_
     have ba:=hbd a (hperm.mem_iff.1 ha)
     have bb:=hbd b (hperm.mem_iff.1 hb)
     rw [ltU,decide_eq_false_iff_not,mk_av ba,mk_av bb] at hh
     omega
    rw [← this]
   rw [hw,key]
   rfl
  ·obtain ⟨rfl,rfl⟩:=hr
   exact ⟨rfl,t,Nat.le_refl _,rfl⟩
end Go.Proofs.YtingdebioipemaaGreatDoor
