/- The arguments of the laws, as they read. -/
import Derived.Test.YtoeicjlflmmmcaaGreatDoorSeat
namespace Go.Proofs.YtoeicjlflmmmcaaGreatDoor
open Go Go.Am
set_option maxRecDepth 100000
theorem wf_i64 {n:Int} (h:(Lit.int .i64 n).wf=true):i64 n:=by
 have h1:IntKind.i64.min=-9223372036854775808:=by decide
 have h2:IntKind.i64.max=9223372036854775807:=by decide
 simp only [Lit.wf,Bool.and_eq_true,decide_eq_true_eq,h1,h2] at h
 exact h
theorem Qkr {α:Type} {p:α→Prop} {f:α→List V}:∀ {q:List (List V)},(∀ x∈q,∃ d,x=f d∧p d)→∃ ds:List α,q=ds.map f∧∀ d∈ds,p d
 | [],_=>⟨[],rfl,by simp⟩
 | x::q,h=>by
   obtain ⟨d,hd,hp⟩:=h x (by simp)
   obtain ⟨ds,h1,h2⟩:=Qkr (q:=q) fun y hy=>h y (by simp [hy])
   exact ⟨d::ds,by simp [hd,h1],by simpa [hp] using h2⟩
theorem QDR:Tryz.prog.cellsOf 39=6:=by kernel_rfl
theorem aggNd:QjU Tryz.prog 39=true:=by kernel_rfl
theorem aggNds:QjU Tryz.prog 22=false:=by kernel_rfl
theorem aggEnv:QjU Tryz.prog 26=true:=by kernel_rfl
theorem aggCl:QjU Tryz.prog 63=true:=by kernel_rfl
theorem aggI64:QjU Tryz.prog 2=false:=by kernel_rfl
theorem aggI64s:QjU Tryz.prog 23=false:=by kernel_rfl
theorem aggCls:QjU Tryz.prog 24=false:=by kernel_rfl
theorem aggInt:QjU Tryz.prog 3=false:=by kernel_rfl
theorem QDS:Tryz.prog.cellsOf 63=4:=by kernel_rfl
theorem Qvm:Tryz.prog.cellsOf 2=1:=by kernel_rfl
theorem QCY {n:Nat} {l:List V} (h:VT Tryz.prog (n+2) 39 l):∃ d:Nd,l=d.cells∧i64 d.n∧i64 d.a:=by
 rw [VT] at h
 simp only [show Tryz.prog.underlying 39=_ from Tryz.underlying39,VTs,VT,show Tryz.prog.underlying 5=_ from Tryz.underlying5,show Tryz.prog.underlying 36=_ from Tryz.underlying36,show Tryz.prog.underlying 2=_ from Tryz.underlying2,show Tryz.prog.underlying 3=_ from Tryz.underlying3,show Tryz.prog.underlying 37=_ from Tryz.underlying37] at h
 obtain ⟨_,_,rfl,⟨k,rfl,_⟩,_,_,rfl,⟨a,rfl,ha⟩,_,_,rfl,⟨b,rfl,hb⟩,_,_,rfl,⟨c,rfl,_⟩,_,_,rfl,⟨x,rfl,hx⟩,_,_,rfl,⟨y,rfl,hy⟩,rfl⟩:=h
 exact ⟨⟨k,a,b,c,x,y⟩,rfl,wf_i64 ha,wf_i64 hb⟩
theorem Qup {n:Nat} {l:List V} (h:VT Tryz.prog (n+3) 22 l):∃ ds:List Nd,l=[.lst 6 (ds.map fun d=>.agg d.cells) false]∧ds.length≤9223372036854775807∧∀ d∈ds,i64 d.n∧i64 d.a:=by
 rw [VT] at h
 simp only [show Tryz.prog.underlying 22=_ from Tryz.underlying22] at h
 obtain ⟨q,rfl,hl,hq⟩:=h
 obtain ⟨ds,rfl,hd⟩:=Qkr fun x hx=>QCY (hq x hx)
 refine ⟨ds,?_,?_,hd⟩
 ·simp [QDR,aggNd,toV]
 ·have hm:maxLen≤9223372036854775807:=by decide
  simp only [List.length_map] at hl
  omega
theorem num_of {n:Nat} {l:List V} (h:VT Tryz.prog (n+1) 2 l):∃ x:Int,l=[.int .i64 x]∧i64 x:=by
 rw [VT] at h
 simp only [show Tryz.prog.underlying 2=_ from Tryz.underlying2] at h
 obtain ⟨x,rfl,hx⟩:=h
 exact ⟨x,rfl,wf_i64 hx⟩
theorem QBK {n:Nat} {l:List V} (h:VT Tryz.prog (n+1) 3 l):∃ x:Int,l=[.int .i64 x]:=by
 rw [VT] at h
 simp only [show Tryz.prog.underlying 3=_ from Tryz.underlying3] at h
 obtain ⟨x,rfl,_⟩:=h
 exact ⟨x,rfl⟩
theorem QCW {n:Nat} {l:List V} (h:VT Tryz.prog (n+2) 23 l):∃ ds:List Int,l=[.lst 1 (Qb ds) false]∧∀ x∈ds,i64 x:=by
 rw [VT] at h
 simp only [show Tryz.prog.underlying 23=_ from Tryz.underlying23] at h
 obtain ⟨q,rfl,_,hq⟩:=h
 obtain ⟨ds,rfl,hd⟩:=Qkr fun x hx=>num_of (hq x hx)
 refine ⟨ds,?_,hd⟩
 simp [Qvm,aggI64,toV,Qb]
def Qto (c:Cl):List V:=[.int .i64 c.arr,.int .i64 c.ver,.int .i64 c.at',.int .i64 c.n]
theorem cl_of {n:Nat} {l:List V} (h:VT Tryz.prog (n+2) 63 l):∃ c:Cl,l=Qto c∧i64 c.n:=by
 rw [VT] at h
 simp only [show Tryz.prog.underlying 63=_ from Tryz.underlying63,VTs,VT,show Tryz.prog.underlying 2=_ from Tryz.underlying2,show Tryz.prog.underlying 3=_ from Tryz.underlying3] at h
 obtain ⟨_,_,rfl,⟨a,rfl,_⟩,_,_,rfl,⟨v,rfl,_⟩,_,_,rfl,⟨x,rfl,_⟩,_,_,rfl,⟨n,rfl,hn⟩,rfl⟩:=h
 exact ⟨⟨a,v,x,n⟩,rfl,wf_i64 hn⟩
theorem cls_of {n:Nat} {l:List V} (h:VT Tryz.prog (n+3) 24 l):∃ ds:List Cl,l=[.lst 4 (ds.map Cl.v) false]∧∀ c∈ds,i64 c.n:=by
 rw [VT] at h
 simp only [show Tryz.prog.underlying 24=_ from Tryz.underlying24] at h
 obtain ⟨q,rfl,_,hq⟩:=h
 obtain ⟨ds,rfl,hd⟩:=Qkr fun x hx=>cl_of (hq x hx)
 refine ⟨ds,?_,hd⟩
 simp [QDS,aggCl,toV,Cl.v,Qto]
theorem env_of {n:Nat} {l:List V} (h:VT Tryz.prog (n+4) 26 l):∃ (S:List Int) (C:List Cl),l=[.lst 1 (Qb S) false,.lst 4 (C.map Cl.v) false]∧(∀ x∈S,i64 x)∧∀ c∈C,i64 c.n:=by
 rw [VT] at h
 simp only [show Tryz.prog.underlying 26=_ from Tryz.underlying26,VTs] at h
 obtain ⟨_,_,rfl,h1,_,_,rfl,h2,rfl⟩:=h
 obtain ⟨S,rfl,hS⟩:=QCW (n:=n+1) h1
 obtain ⟨C,rfl,hC⟩:=cls_of (n:=n) h2
 exact ⟨S,C,rfl,hS,hC⟩
end Go.Proofs.YtoeicjlflmmmcaaGreatDoor
