/- The arguments of the laws, as they read. -/
import Derived.Test.YtingdebioipemaaGreatDoorSeat
namespace Go.Proofs.YtingdebioipemaaGreatDoor
open Go Go.Am Go.Cl
set_option maxRecDepth 100000
def inI (n:Int):Prop:=-9223372036854775808≤n∧n≤9223372036854775807
theorem wf_i64 {n:Int} (h:(Lit.int .i64 n).wf=true):inI n:=by
 have h1:IntKind.i64.min=-9223372036854775808:=by decide
 have h2:IntKind.i64.max=9223372036854775807:=by decide
 simp only [Lit.wf,Bool.and_eq_true,decide_eq_true_eq,h1,h2] at h
 exact h
theorem Qgi {α:Type} {p:α→Prop} {f:α→List V}:∀ {q:List (List V)},(∀ x∈q,∃ d,x=f d∧p d)→∃ ds:List α,q=ds.map f∧∀ d∈ds,p d
 | [],_=>⟨[],rfl,by simp⟩
 | x::q,h=>by
   obtain ⟨d,hd,hp⟩:=h x (by simp)
   obtain ⟨ds,h1,h2⟩:=Qgi (q:=q) fun y hy=>h y (by simp [hy])
   exact ⟨d::ds,by simp [hd,h1],by simpa [hp] using h2⟩
theorem QoY:Tryz.prog.cellsOf 3=1:=by kernel_rfl
theorem aggInt:QgL Tryz.prog 3=false:=by kernel_rfl
theorem Qnz:Tryz.prog.cellsOf 41=1:=by kernel_rfl
theorem Qua:QgL Tryz.prog 41=false:=by kernel_rfl
theorem aggRows:QgL Tryz.prog 22=false:=by kernel_rfl
theorem aggFml:QgL Tryz.prog 24=true:=by kernel_rfl
theorem Qr5 {n:Nat} {l:List V} (h:VT Tryz.prog (n+1) 3 l):∃ x:Int,l=[.int .i64 x]∧inI x:=by
 rw [VT] at h
 simp only [show Tryz.prog.underlying 3=some (.int .i64) from Tryz.underlying3] at h
 obtain ⟨x,rfl,hx⟩:=h
 exact ⟨x,rfl,wf_i64 hx⟩
theorem Qtt {n:Nat} {l:List V} (h:VT Tryz.prog (n+2) 41 l):∃ c:List Int,l=[row c]∧c.length≤9223372036854775807∧∀ x∈c,inI x:=by
 rw [VT] at h
 simp only [show Tryz.prog.underlying 41=some (.slice 3) from Tryz.underlying41] at h
 obtain ⟨q,rfl,hl,hq⟩:=h
 obtain ⟨ds,rfl,hd⟩:=Qgi fun x hx=>Qr5 (hq x hx)
 refine ⟨ds,?_,?_,hd⟩
 ·simp [QoY,aggInt,toV,row,ints]
 ·have hm:maxLen≤9223372036854775807:=by decide
  simp only [List.length_map] at hl
  omega
theorem Qs8 {n:Nat} {l:List V} (h:VT Tryz.prog (n+3) 22 l):∃ F:List (List Int),l=[rows F]∧F.length≤9223372036854775807∧∀ c∈F,c.length≤9223372036854775807∧∀ x∈c,inI x:=by
 rw [VT] at h
 simp only [show Tryz.prog.underlying 22=some (.slice 41) from Tryz.underlying22] at h
 obtain ⟨q,rfl,hl,hq⟩:=h
 obtain ⟨ds,rfl,hd⟩:=Qgi (f:=fun c=>[row c]) fun x hx=>Qtt (hq x hx)
 refine ⟨ds,?_,?_,hd⟩
 ·simp [Qnz,Qua,toV,rows]
 ·have hm:maxLen≤9223372036854775807:=by decide
  simp only [List.length_map] at hl
  omega
theorem fml_of {n:Nat} {l:List V} (h:VT Tryz.prog (n+4) 24 l):∃ v F,l=[.int .i64 v,rows F]∧inI v∧F.length≤9223372036854775807∧∀ c∈F,c.length≤9223372036854775807∧∀ x∈c,inI x:=by
 rw [VT] at h
 simp only [show Tryz.prog.underlying 24=_ from Tryz.underlying24,VTs] at h
 obtain ⟨_,_,rfl,h1,_,_,rfl,h2,rfl⟩:=h
 obtain ⟨v,rfl,hv⟩:=Qr5 (n:=n+2) h1
 obtain ⟨F,rfl,h3,h4⟩:=Qs8 (n:=n) h2
 exact ⟨v,F,by simp,hv,h3,h4⟩
theorem QoW:Tryz.prog.cellsOf 5=1:=by kernel_rfl
theorem aggU8:QgL Tryz.prog 5=false:=by kernel_rfl
theorem aggU8s:QgL Tryz.prog 25=false:=by kernel_rfl
theorem u8_of {n:Nat} {l:List V} (h:VT Tryz.prog (n+1) 5 l):∃ x:UInt8,l=[.int .u8 x.toNat]∧True:=by
 rw [VT] at h
 simp only [show Tryz.prog.underlying 5=some (.int .u8) from Tryz.underlying5] at h
 obtain ⟨x,rfl,hx⟩:=h
 have h1:IntKind.u8.min=0:=by decide
 have h2:IntKind.u8.max=255:=by decide
 simp only [Lit.wf,Bool.and_eq_true,decide_eq_true_eq,h1,h2] at hx
 refine ⟨UInt8.ofNat x.toNat,?_,trivial⟩
 have:(UInt8.ofNat x.toNat).toNat=x.toNat:=by simp [UInt8.toNat_ofNat']; omega
 rw [this,Int.toNat_of_nonneg hx.1]
theorem u8s_of {n:Nat} {l:List V} (h:VT Tryz.prog (n+2) 25 l):∃ c:List UInt8,l=[.lst 1 (Qf c) false]∧c.length≤9223372036854775807:=by
 rw [VT] at h
 simp only [show Tryz.prog.underlying 25=some (.slice 5) from Tryz.underlying25] at h
 obtain ⟨q,rfl,hl,hq⟩:=h
 obtain ⟨ds,rfl,_⟩:=Qgi (f:=fun x:UInt8=>[V.int .u8 x.toNat]) fun x hx=>u8_of (hq x hx)
 refine ⟨ds,by simp [QoW,aggU8,toV,Qf],?_⟩
 have hm:maxLen≤9223372036854775807:=by decide
 simp only [List.length_map] at hl
 omega
end Go.Proofs.YtingdebioipemaaGreatDoor
