/- The library's Compact, and its sort, as Clean asks of them. -/
import Derived.Test.YtingdebioipemaaGreatDoorSh2
import Derived.Test.YtingdebioipemaaGreatDoorShC
import Derived.Lib.SlicesCompact
namespace Go.Proofs.YtingdebioipemaaGreatDoor
open Go Go.Am Go.Cl Go.Sort Go.Lib
set_option maxRecDepth 100000
theorem compactUpTo_succ (d:Array Int) (m:Nat):compactUpTo d (m+1)=compactUpTo d m++if keeps d m then [d[m]!] else []:=by
 unfold compactUpTo
 rw [List.range_succ,List.filter_append,List.map_append]
 congr 1
 simp only [List.filter_cons,List.filter_nil]
 split <;> rfl
theorem Qjw (x:Int):∀ (l:List Int),X7 (l++[x])=X7 l++if l.getLast?=some x then [] else [x]
 | []=>rfl
 | [a]=>by
   simp only [List.cons_append,List.nil_append,X7,List.getLast?_singleton,Option.some.injEq]
   split
   ·rename_i h; simp [h]
   ·rename_i h; simp []
 | a::b::l=>by
   have ih:=Qjw x (b::l)
   simp only [List.cons_append] at ih ⊢
   have hlast:(a::b::l).getLast?=(b::l).getLast?:=by simp
   rw [hlast]
   conv=>lhs; unfold X7
   conv=>rhs; unfold X7
   split
   ·exact ih
   ·rw [ih]; rfl
theorem QgG (zs:List Int):∀ m,m≤zs.length→compactUpTo zs.toArray m=X7 (zs.take m)
 | 0,_=>rfl
 | m+1,h=>by
   have hm:m<zs.length:=h
   rw [compactUpTo_succ,QgG zs m (by omega),Qp (List.getElem?_eq_getElem hm),Qjw]
   congr 1
   have e:zs.toArray[m]! = zs[m]:=by rw [getElem!_pos _ _ (by simpa using hm)]; simp
   unfold keeps
   by_cases h0:m=0
   ·subst h0; simp [e]
   ·have hp:m - 1<zs.length:=by omega
    have e2:zs.toArray[m - 1]! = zs[m - 1]:=by rw [getElem!_pos _ _ (by simpa using hp)]; simp
    have e3:(zs.take m).getLast?=some zs[m - 1]:=by
     rw [List.getLast?_eq_getElem?,List.length_take,Nat.min_eq_left (by omega),List.getElem?_take,if_pos (by omega),List.getElem?_eq_getElem hp]
    rw [e3,e,e2]
    simp only [h0,false_or,ne_eq,Option.some.injEq]
    by_cases hh:zs[m]=zs[m - 1]
    ·simp [hh]
    ·have hh':¬ zs[m - 1]=zs[m]:=fun x=>hh x.symm
     simp [hh,hh']
theorem QoV (zs:List Int):compact zs=X7 zs:=by
 unfold compact
 rw [QgG zs _ (Nat.le_refl _),List.take_length]
theorem Qhg:∀ zs:List Int,(X7 zs).length≤zs.length
 | []=>Nat.le_refl _
 | [a]=>Nat.le_refl _
 | a::b::l=>by
   have:=Qhg (b::l)
   unfold X7
   split
   ·simp at this ⊢; omega
   ·simp at this ⊢; omega
theorem Qs6 {G:Nat→Option V} {base k v T t:Nat} {o:List (Option Ob)} {zs:List Int} (hk:base≤k) (ho:o[k]?=some (some (.arr v T (ints zs)))) (hl:zs.length≤1000000) :
 C Tryz.prog G base Ze [.sl k v 0 1 zs.length none] ⟨t,o⟩ fun r σ'=>r=.sl k v 0 1 (X7 zs).length none∧∃ cells,Qb cells=true∧σ'=⟨t,o.set k (some (.arr v T (ints (X7 zs)++cells)))⟩:=by
 by_cases hz:zs=[]
 ·subst hz
  refine (C_cut0 (fun p cap w=>Tryz.slices_Compact_int_empty p cap w)).conseq fun r σ' ⟨h1,h2⟩=>⟨h1,[],rfl,?_⟩
  rw [h2,show ints (X7 [])++[]=ints [] from rfl,List.set_getElem?_self ho]
 ·refine (C_cut (zs':=X7 zs++List.replicate (zs.length - (X7 zs).length) 0) (m:=(X7 zs).length) hk ho hz (by have:=Qhg zs; simp; omega) (Qhg zs) fun blk off cap w hH hcap=>?_).conseq fun r σ' ⟨h1,h2⟩=>⟨h1,ints (List.replicate (zs.length - (X7 zs).length) 0),QQ _,?_⟩
  ·have h:=Tryz.slices_Compact_int blk off cap zs w hH (by omega) hcap
   rw [QoV] at h
   exact h
  ·rw [h2]; simp [ints]
/-- The library's sort, as Clean calls it. -/
theorem QBd {G:Nat→Option V} {base k v t:Nat} {o:List (Option Ob)} {zs:List Int} (hb:base≤k) (ho:o[k]?=some (some (.arr v 3 (ints zs)))) (hbd:∀ n∈zs,-9223372036854775808≤n∧n≤9223372036854775807) (hl:zs.length≤1000000) :
 ∃ s:List Int,s.length=zs.length∧s.Pairwise ks∧(∀ n,n∈s↔n∈zs)∧C Tryz.prog G base X0 [.sl k v 0 1 zs.length none,.fn (.func Qb1) [] []] ⟨t,o⟩ fun r σ'=>r=.tup []∧σ'=⟨t,o.set k (some (.arr v 3 (ints s)))⟩:=by
 have hmk:∀ n,-9223372036854775808≤n∧n≤9223372036854775807→mk n=QyN n:=fun n h=>by
  unfold mk QyN neg RowKit.wrap64
  split <;> omega
 have hle:∀ x y:Int,(!ltOf cfC y x)=decide (mk x<mk y∨mk x=mk y∧x≤y):=fun x y=>by
  rw [ltC,Bool.eq_iff_iff,Bool.not_eq_true',decide_eq_false_iff_not,decide_eq_true_eq]
  omega
 have hperm:=List.mergeSort_perm zs fun x y=>!ltOf cfC y x
 refine ⟨zs.mergeSort fun x y=>!ltOf cfC y x,hperm.length_eq,?_,fun n=>hperm.mem_iff,?_⟩
 ·have h:=List.pairwise_mergeSort (le:=fun x y:Int=>!ltOf cfC y x) (fun a b c h1 h2=>by
   simp only [hle,decide_eq_true_eq] at *; omega) (fun a b=>by
   simp only [hle,Bool.or_eq_true,decide_eq_true_eq]; omega) zs
  refine h.imp_of_mem fun {a b} ha hb hh=>?_
  have ba:=hmk a (hbd a (hperm.mem_iff.1 ha))
  have bb:=hmk b (hbd b (hperm.mem_iff.1 hb))
  rw [hle,decide_eq_true_eq,ba,bb] at hh
  exact hh
 ·by_cases hz:zs=[]
  ·subst hz
   refine (Qon (fun p cap w=>AnyF.slices_SortFunc_none { Tryz.laysSortF with } p cap _ w)).conseq fun r σ' hr=>?_
   obtain ⟨rfl,rfl⟩:=hr
   refine ⟨rfl,?_⟩
   rw [show ints (List.mergeSort [] fun x y=>!ltOf cfC y x)=ints [] from by simp,List.set_getElem?_self ho]
  ·refine Qtn (zs':=zs.mergeSort fun x y=>!ltOf cfC y x) hb ho hz hperm.length_eq fun blk off cap w hH hblk=>?_
   exact Any.slices_SortFunc_total Tryz.laysSortF (Value.int .i64) (fun _=>rfl) cfC swoC Qb1 #[] blk off cap zs.toArray w (enters_of Tryz.func43 (by kernel_rfl) rfl)
    (fun _ _ _ _ x y=>w_CS1 x y _) hH hblk (by simp; omega) (fun x y h1 h2=>by
     rw [ltC,decide_eq_false_iff_not] at h1 h2; omega)
end Go.Proofs.YtingdebioipemaaGreatDoor
