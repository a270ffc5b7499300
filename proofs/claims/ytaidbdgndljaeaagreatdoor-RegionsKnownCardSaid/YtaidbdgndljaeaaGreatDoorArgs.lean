/- The arguments of the laws: images, rows of bytes. -/
import Derived.Test.YtaidbdgndljaeaaGreatDoorSeat
import Derived.Test.YtaidbdgndljaeaaGreatDoorJ9
namespace Go.Proofs.YtaidbdgndljaeaaGreatDoor
open Go Go.Am Go.Rv Go.Rg
set_option maxRecDepth 100000
theorem Qyo:Tryz.prog.cellsOf 43=1:=by kernel_rfl
theorem QGR:Tryz.prog.cellsOf 5=1:=by kernel_rfl
theorem Qyp:Tryz.prog.cellsOf 60=2:=by kernel_rfl
theorem aggU32:Qpc Tryz.prog 43=false:=by kernel_rfl
theorem aggU8:Qpc Tryz.prog 5=false:=by kernel_rfl
theorem aggSym:Qpc Tryz.prog 60=true:=by kernel_rfl
theorem aggImg:Qpc Tryz.prog 25=true:=by kernel_rfl
theorem aggU8s:Qpc Tryz.prog 26=false:=by kernel_rfl
theorem Qnh {α:Type} {p:α→Prop} {f:α→List V}:∀ {q:List (List V)},(∀ x∈q,∃ d,x=f d∧p d)→∃ ds:List α,q=ds.map f∧∀ d∈ds,p d
 | [],_=>⟨[],rfl,by simp⟩
 | x::q,h=>by
   obtain ⟨d,hd,hp⟩:=h x (by simp)
   obtain ⟨ds,h1,h2⟩:=Qnh (q:=q) fun y hy=>h y (by simp [hy])
   exact ⟨d::ds,by simp [hd,h1],by simpa [hp] using h2⟩
theorem u8_of {n:Nat} {l:List V} (h:VT Tryz.prog (n+1) 5 l):∃ x:Int,l=[.int .u8 x]∧(0≤x∧x≤255):=by
 rw [VT] at h
 simp only [Tryz.underlying5] at h
 obtain ⟨x,rfl,hx⟩:=h
 have h1:IntKind.u8.min=0:=by decide
 have h2:IntKind.u8.max=255:=by decide
 simp only [Lit.wf,Bool.and_eq_true,decide_eq_true_eq,h1,h2] at hx
 exact ⟨x,rfl,hx⟩
theorem u32_of {n:Nat} {l:List V} (h:VT Tryz.prog (n+1) 43 l):∃ x:Int,l=[.int .u32 x]∧(0≤x∧x<4294967296):=by
 rw [VT] at h
 simp only [Tryz.underlying43] at h
 obtain ⟨x,rfl,hx⟩:=h
 have h1:IntKind.u32.min=0:=by decide
 have h2:IntKind.u32.max=4294967295:=by decide
 simp only [Lit.wf,Bool.and_eq_true,decide_eq_true_eq,h1,h2] at hx
 exact ⟨x,rfl,by omega⟩
theorem u8s_of {n:Nat} {l:List V} (h:VT Tryz.prog (n+2) 26 l):∃ c:List Int,l=[.lst 1 (us c) false]∧∀ x∈c,0≤x∧x≤255:=by
 rw [VT] at h
 simp only [Tryz.underlying26] at h
 obtain ⟨q,rfl,hl,hq⟩:=h
 obtain ⟨ds,rfl,hd⟩:=Qnh (f:=fun x:Int=>[V.int .u8 x]) fun x hx=>u8_of (hq x hx)
 exact ⟨ds,by simp [QGR,aggU8,toV,us],hd⟩
theorem QFL {n:Nat} {l:List V} (h:VT Tryz.prog (n+2) 23 l):∃ c:List Int,l=[QF c]∧∀ x∈c,0≤x∧x<4294967296:=by
 rw [VT] at h
 simp only [Tryz.underlying23] at h
 obtain ⟨q,rfl,hl,hq⟩:=h
 obtain ⟨ds,rfl,hd⟩:=Qnh (f:=fun x:Int=>[V.int .u32 x]) fun x hx=>u32_of (hq x hx)
 exact ⟨ds,by simp [Qyo,aggU32,toV,QF],hd⟩
theorem sym_of {n:Nat} {l:List V} (h:VT Tryz.prog (n+2) 60 l):∃ s:List UInt8 × Int,l=[.str s.1,.int .i64 s.2]∧s.1.length≤9223372036854775807:=by
 simp only [VT,Tryz.underlying60,VTs,Tryz.underlying9,Tryz.underlying3] at h
 obtain ⟨_,_,rfl,⟨s,rfl,hs⟩,_,_,rfl,⟨a,rfl,_⟩,rfl⟩:=h
 have hm:maxLen≤9223372036854775807:=by decide
 exact ⟨(s,a),rfl,by show s.length≤_; omega⟩
theorem QFN {n:Nat} {l:List V} (h:VT Tryz.prog (n+3) 22 l):∃ c:List (List UInt8 × Int),l=[QU c]∧∀ s∈c,s.1.length≤9223372036854775807:=by
 rw [VT] at h
 simp only [Tryz.underlying22] at h
 obtain ⟨q,rfl,hl,hq⟩:=h
 obtain ⟨ds,rfl,hd⟩:=Qnh (f:=fun s:List UInt8 × Int=>[V.str s.1,V.int .i64 s.2]) fun x hx=>sym_of (hq x hx)
 exact ⟨ds,by simp [Qyp,aggSym,toV,QU,Qju,Function.comp_def],hd⟩
theorem img_of {n:Nat} {l:List V} (h:VT Tryz.prog (n+4) 25 l):∃ m:Im,l=X5 m∧(∀ s∈m.syms,s.1.length≤9223372036854775807)∧∀ w∈m.code,0≤w∧w<4294967296:=by
 rw [VT] at h
 simp only [Tryz.underlying25,VTs] at h
 obtain ⟨_,_,rfl,h1,_,_,rfl,h2,_,_,rfl,h3,rfl⟩:=h
 rw [VT] at h1
 simp only [Tryz.underlying3] at h1
 obtain ⟨d,rfl,_⟩:=h1
 obtain ⟨S,rfl,hS⟩:=QFN (n:=n) h2
 obtain ⟨C,rfl,hC⟩:=QFL (n:=n+1) h3
 exact ⟨⟨d,S,C⟩,rfl,hS,hC⟩
end Go.Proofs.YtaidbdgndljaeaaGreatDoor
