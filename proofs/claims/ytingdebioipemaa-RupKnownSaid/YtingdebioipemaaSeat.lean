/- What the seat's laws share: a world for the witness; the arguments of the laws. -/
import Derived.Test.YtingdebioipemaaRows
import Derived.WalkKit
import Derived.ProofKit
import Derived.OpenShut
import Derived.Deep.DeepHandedRow
import Derived.Lib.LaidTab
import Derived.Stop.LaidErr
import Derived.Test.YtingdebioipemaaAmD
import Derived.Test.YtingdebioipemaaTabEq
import Derived.Test.YtingdebioipemaaJ1
namespace Go.Proofs.Ytingdebioipemaa
open Go Go.Am Go.ChangeShapes Go.WideShapes Go.ChangeAt Go.RowKit
set_option maxRecDepth 100000
theorem own:ownKnob Try.prog.godebug=none:=by kernel_rfl
theorem Qw8:laidOutB Try.prog=true:=by kernel_rfl
abbrev tBool:TypeId:=4
def G0:Nat→Option V:=fun _=>none
theorem hG0 {W:World}:∀ g x,G0 g=some x→VR (ZD W) noNames (.ref x 0) (.pointer (some ⟨g,0,none⟩))∧Gv W g x:=fun g x h=>by cases h
noncomputable def Qhf (os:Os):World:=World.holding Try.prog os ⟨#[],#[],[]⟩
def inI (n:Int):Prop:=-9223372036854775808≤n∧n≤9223372036854775807
theorem wf_i64 {n:Int} (h:(Lit.int .i64 n).wf=true):inI n:=by
 have h1:IntKind.i64.min=-9223372036854775808:=by decide
 have h2:IntKind.i64.max=9223372036854775807:=by decide
 simp only [Lit.wf,Bool.and_eq_true,decide_eq_true_eq,h1,h2] at h
 exact h
theorem Qln {α:Type} {p:α→Prop} {f:α→List V}:∀ {q:List (List V)},(∀ x∈q,∃ d,x=f d∧p d)→∃ ds:List α,q=ds.map f∧∀ d∈ds,p d
 | [],_=>⟨[],rfl,by simp⟩
 | x::q,h=>by
   obtain ⟨d,hd,hp⟩:=h x (by simp)
   obtain ⟨ds,h1,h2⟩:=Qln (q:=q) fun y hy=>h y (by simp [hy])
   exact ⟨d::ds,by simp [hd,h1],by simpa [hp] using h2⟩
theorem Qsr:Try.prog.cellsOf 3=1:=by kernel_rfl
theorem aggInt:QkF Try.prog 3=false:=by kernel_rfl
theorem QqF:Try.prog.cellsOf 25=1:=by kernel_rfl
theorem QxI:QkF Try.prog 25=false:=by kernel_rfl
theorem aggRows:QkF Try.prog 22=false:=by kernel_rfl
theorem aggFml:QkF Try.prog 24=true:=by kernel_rfl
theorem Qu7 {n:Nat} {l:List V} (h:VT Try.prog (n+1) 3 l):∃ x:Int,l=[.int .i64 x]∧inI x:=by
 rw [VT] at h
 simp only [show Try.prog.underlying 3=some (.int .i64) from Try.underlying3] at h
 obtain ⟨x,rfl,hx⟩:=h
 exact ⟨x,rfl,wf_i64 hx⟩
theorem Qw6 {n:Nat} {l:List V} (h:VT Try.prog (n+2) 25 l):∃ c:List Int,l=[row c]∧c.length≤9223372036854775807∧∀ x∈c,inI x:=by
 rw [VT] at h
 simp only [show Try.prog.underlying 25=some (.slice 3) from Try.underlying25] at h
 obtain ⟨q,rfl,hl,hq⟩:=h
 obtain ⟨ds,rfl,hd⟩:=Qln fun x hx=>Qu7 (hq x hx)
 refine ⟨ds,?_,?_,hd⟩
 ·simp [Qsr,aggInt,toV,row,ints]
 ·have hm:maxLen≤9223372036854775807:=by decide
  simp only [List.length_map] at hl
  omega
theorem QwM {n:Nat} {l:List V} (h:VT Try.prog (n+3) 22 l):∃ F:List (List Int),l=[rows F]∧F.length≤9223372036854775807∧∀ c∈F,c.length≤9223372036854775807∧∀ x∈c,inI x:=by
 rw [VT] at h
 simp only [show Try.prog.underlying 22=some (.slice 25) from Try.underlying22] at h
 obtain ⟨q,rfl,hl,hq⟩:=h
 obtain ⟨ds,rfl,hd⟩:=Qln (f:=fun c=>[row c]) fun x hx=>Qw6 (hq x hx)
 refine ⟨ds,?_,?_,hd⟩
 ·simp [QqF,QxI,toV,rows]
 ·have hm:maxLen≤9223372036854775807:=by decide
  simp only [List.length_map] at hl
  omega
theorem fml_of {n:Nat} {l:List V} (h:VT Try.prog (n+4) 24 l):∃ v F,l=[.int .i64 v,rows F]∧inI v∧F.length≤9223372036854775807∧∀ c∈F,c.length≤9223372036854775807∧∀ x∈c,inI x:=by
 rw [VT] at h
 simp only [show Try.prog.underlying 24=_ from Try.underlying24,VTs] at h
 obtain ⟨_,_,rfl,h1,_,_,rfl,h2,rfl⟩:=h
 obtain ⟨v,rfl,hv⟩:=Qu7 (n:=n+2) h1
 obtain ⟨F,rfl,h3,h4⟩:=QwM (n:=n) h2
 exact ⟨v,F,by simp,hv,h3,h4⟩
end Go.Proofs.Ytingdebioipemaa
