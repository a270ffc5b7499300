/- The arguments of the laws: rows of pairs. -/
import Derived.Test.YtfgccihafnjalaaGreatDoorSeat
import Derived.Test.YtfgccihafnjalaaGreatDoorJ5
namespace Go.Proofs.YtfgccihafnjalaaGreatDoor
open Go Go.Am Go.Re
set_option maxRecDepth 100000
theorem QI3:Tryz.prog.cellsOf 64=3:=by kernel_rfl
theorem aggPr:Qp4 Tryz.prog 64=true:=by kernel_rfl
theorem aggPrs:Qp4 Tryz.prog 22=false:=by kernel_rfl
theorem Qs9 {α:Type} {p:α→Prop} {f:α→List V}:∀ {q:List (List V)},(∀ x∈q,∃ d,x=f d∧p d)→∃ ds:List α,q=ds.map f∧∀ d∈ds,p d
 | [],_=>⟨[],rfl,by simp⟩
 | x::q,h=>by
   obtain ⟨d,hd,hp⟩:=h x (by simp)
   obtain ⟨ds,h1,h2⟩:=Qs9 (q:=q) fun y hy=>h y (by simp [hy])
   exact ⟨d::ds,by simp [hd,h1],by simpa [hp] using h2⟩
theorem wf_i64 {n:Int} (h:(Lit.int .i64 n).wf=true):-9223372036854775808≤n∧n≤9223372036854775807:=by
 have h1:IntKind.i64.min=-9223372036854775808:=by decide
 have h2:IntKind.i64.max=9223372036854775807:=by decide
 simp only [Lit.wf,Bool.and_eq_true,decide_eq_true_eq,h1,h2] at h
 exact h
theorem wf_u8 {n:Int} (h:(Lit.int .u8 n).wf=true):0≤n∧n≤255:=by
 have h1:IntKind.u8.min=0:=by decide
 have h2:IntKind.u8.max=255:=by decide
 simp only [Lit.wf,Bool.and_eq_true,decide_eq_true_eq,h1,h2] at h
 exact h
/-- A pair that can be. -/
def PrOk (p:Pr):Prop:=(-9223372036854775808≤p.v∧p.v≤9223372036854775807)∧(0≤p.k∧p.k≤255)∧(-9223372036854775808≤p.n∧p.n≤9223372036854775807)
theorem QH8 {n:Nat} {l:List V} (h:VT Tryz.prog (n+3) 64 l):∃ p:Pr,l=prC p∧PrOk p:=by
 simp only [VT,Tryz.underlying64,VTs,Tryz.underlying3,Tryz.underlying62,Tryz.underlying5,Tryz.underlying2] at h
 obtain ⟨_,_,rfl,⟨v,rfl,hv⟩,_,_,rfl,⟨_,_,rfl,⟨k,rfl,hk⟩,_,_,rfl,⟨m,rfl,hm⟩,rfl⟩,rfl⟩:=h
 exact ⟨⟨v,k,m⟩,rfl,wf_i64 hv,wf_u8 hk,wf_i64 hm⟩
theorem QAk {n:Nat} {l:List V} (h:VT Tryz.prog (n+4) 22 l):∃ c:List Pr,l=[.lst 3 (prs c) false]∧∀ p∈c,PrOk p:=by
 rw [VT] at h
 simp only [Tryz.underlying22] at h
 obtain ⟨q,rfl,hl,hq⟩:=h
 obtain ⟨ds,rfl,hd⟩:=Qs9 (f:=prC) fun x hx=>QH8 (hq x hx)
 exact ⟨ds,by simp [QI3,aggPr,toV,prs,prV,Function.comp_def],hd⟩
end Go.Proofs.YtfgccihafnjalaaGreatDoor
