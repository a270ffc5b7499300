/- The arguments of the laws: images, rows of bytes. -/
import Derived.Test.YtbdhjeojcpgblaaGreatDoorSeat
import Derived.Test.YtbdhjeojcpgblaaGreatDoorJ17
namespace Go.Proofs.YtbdhjeojcpgblaaGreatDoor
open Go Go.Am Go.Rv Go.Rg
set_option maxRecDepth 100000
theorem QFQ:Tryz.prog.cellsOf 108=1:=by kernel_rfl
theorem QFR:Tryz.prog.cellsOf 122=2:=by kernel_rfl
theorem aggU32:QqL Tryz.prog 108=false:=by kernel_rfl
theorem aggSym:QqL Tryz.prog 122=true:=by kernel_rfl
theorem aggImg:QqL Tryz.prog 25=true:=by kernel_rfl
theorem QuO {α:Type} {p:α→Prop} {f:α→List V}:∀ {q:List (List V)},(∀ x∈q,∃ d,x=f d∧p d)→∃ ds:List α,q=ds.map f∧∀ d∈ds,p d
 | [],_=>⟨[],rfl,by simp⟩
 | x::q,h=>by
   obtain ⟨d,hd,hp⟩:=h x (by simp)
   obtain ⟨ds,h1,h2⟩:=QuO (q:=q) fun y hy=>h y (by simp [hy])
   exact ⟨d::ds,by simp [hd,h1],by simpa [hp] using h2⟩
theorem u32_of {n:Nat} {l:List V} (h:VT Tryz.prog (n+1) 108 l):∃ x:Int,l=[.int .u32 x]∧(0≤x∧x<4294967296):=by
 rw [VT] at h
 simp only [Tryz.underlying108] at h
 obtain ⟨x,rfl,hx⟩:=h
 have h1:IntKind.u32.min=0:=by decide
 have h2:IntKind.u32.max=4294967295:=by decide
 simp only [Lit.wf,Bool.and_eq_true,decide_eq_true_eq,h1,h2] at hx
 exact ⟨x,rfl,by omega⟩
theorem QRk {n:Nat} {l:List V} (h:VT Tryz.prog (n+2) 23 l):∃ c:List Int,l=[Xs c]∧∀ x∈c,0≤x∧x<4294967296:=by
 rw [VT] at h
 simp only [Tryz.underlying23] at h
 obtain ⟨q,rfl,hl,hq⟩:=h
 obtain ⟨ds,rfl,hd⟩:=QuO (f:=fun x:Int=>[V.int .u32 x]) fun x hx=>u32_of (hq x hx)
 exact ⟨ds,by simp [QFQ,aggU32,toV,Xs],hd⟩
theorem sym_of {n:Nat} {l:List V} (h:VT Tryz.prog (n+2) 122 l):∃ s:List UInt8 × Int,l=[.str s.1,.int .i64 s.2]∧s.1.length≤9223372036854775807:=by
 simp only [VT,Tryz.underlying122,VTs,Tryz.underlying9,Tryz.underlying3] at h
 obtain ⟨_,_,rfl,⟨s,rfl,hs⟩,_,_,rfl,⟨a,rfl,_⟩,rfl⟩:=h
 have hm:maxLen≤9223372036854775807:=by decide
 exact ⟨(s,a),rfl,by show s.length≤_; omega⟩
theorem QRw {n:Nat} {l:List V} (h:VT Tryz.prog (n+3) 22 l):∃ c:List (List UInt8 × Int),l=[Xe c]∧∀ s∈c,s.1.length≤9223372036854775807:=by
 rw [VT] at h
 simp only [Tryz.underlying22] at h
 obtain ⟨q,rfl,hl,hq⟩:=h
 obtain ⟨ds,rfl,hd⟩:=QuO (f:=fun s:List UInt8 × Int=>[V.str s.1,V.int .i64 s.2]) fun x hx=>sym_of (hq x hx)
 exact ⟨ds,by simp [QFR,aggSym,toV,Xe,Qn8,Function.comp_def],hd⟩
theorem img_of {n:Nat} {l:List V} (h:VT Tryz.prog (n+4) 25 l):∃ m:Im,l=QbF m∧(∀ s∈m.syms,s.1.length≤9223372036854775807)∧∀ w∈m.code,0≤w∧w<4294967296:=by
 rw [VT] at h
 simp only [Tryz.underlying25,VTs] at h
 obtain ⟨_,_,rfl,h1,_,_,rfl,h2,_,_,rfl,h3,rfl⟩:=h
 rw [VT] at h1
 simp only [Tryz.underlying3] at h1
 obtain ⟨d,rfl,_⟩:=h1
 obtain ⟨S,rfl,hS⟩:=QRw (n:=n) h2
 obtain ⟨C,rfl,hC⟩:=QRk (n:=n+1) h3
 exact ⟨⟨d,S,C⟩,rfl,hS,hC⟩
theorem agg3:QqL Tryz.prog 3=false:=by kernel_rfl
theorem wf_i64 {n:Int} (h:(Lit.int .i64 n).wf=true):i64 n:=by
 have h1:IntKind.i64.min=-9223372036854775808:=by decide
 have h2:IntKind.i64.max=9223372036854775807:=by decide
 simp only [Lit.wf,Bool.and_eq_true,decide_eq_true_eq,h1,h2] at h
 exact h
theorem int_of {n:Nat} {l:List V} (h:VT Tryz.prog (n+1) 3 l):∃ x:Int,l=[.int .i64 x]∧i64 x:=by
 simp only [VT,Tryz.underlying3] at h
 obtain ⟨x,rfl,hx⟩:=h
 exact ⟨x,rfl,wf_i64 hx⟩
theorem agg2:QqL Tryz.prog 2=false:=by kernel_rfl
theorem QFo {n:Nat} {l:List V} (h:VT Tryz.prog (n+1) 2 l):∃ x:Int,l=[.int .i64 x]∧i64 x:=by
 simp only [VT,Tryz.underlying2] at h
 obtain ⟨x,rfl,hx⟩:=h
 exact ⟨x,rfl,wf_i64 hx⟩
end Go.Proofs.YtbdhjeojcpgblaaGreatDoor
