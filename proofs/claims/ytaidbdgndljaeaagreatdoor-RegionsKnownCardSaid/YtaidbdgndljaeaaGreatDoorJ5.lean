/- The library's Sort and Compact at rows of numbers. -/
import Derived.Test.YtaidbdgndljaeaaGreatDoorJ2
import Derived.Test.YtaidbdgndljaeaaGreatDoorShS
import Derived.Test.YtaidbdgndljaeaaGreatDoorShC
import Derived.Lib.SlicesCompact
import Derived.Test.YtaidbdgndljaeaaGreatDoorJ3
import Derived.Test.YtaidbdgndljaeaaGreatDoorJ4
import Derived.Test.YtaidbdgndljaeaaGreatDoorJ1
open Nat renaming reduceEqDiff → rq, reduceAdd → rA, reduceLeDiff → rL, reduceLT → rT, zero_add → zA, le_refl → lR, zero_le → zL, add_zero → aZ
open List renaming length_cons → lC, length_nil → lN, take_succ_cons → tS, length_append → lA, nil_append → nA, cons_append → cA, append_assoc → aA, take_nil → tN, take_zero → tZ, length_map → lM
open Bool renaming not_false → nF, not_true → nT
namespace Go.Proofs.YtaidbdgndljaeaaGreatDoor
open Go Go.Am Go.Sort Go.Lib
set_option maxRecDepth 100000
variable {P:Program} {G:Nat→Option V} {k base v t:Nat}
theorem _root_.List.set_getElem?_self {α:Type} {l:List α} {x:α} (h:l[k]?=some x):l.set k x=l:=by
 obtain ⟨h1,h2⟩:=List.getElem?_eq_some_iff.1 h
 rw [← h2,List.set_getElem_self]
def QaP:List Int→List Int
 | []=>[]
 | [a]=>[a]
 | a::b::l=>if a=b then QaP (b::l) else a::QaP (b::l)
theorem compactUpTo_succ (d:Array Int) (m:Nat):compactUpTo d (m+1)=compactUpTo d m++if keeps d m then [d[m]!] else []:=by
 unfold compactUpTo
 rw [List.range_succ,List.filter_append,List.map_append]
 congr 1
 simp only [List.filter_cons,List.filter_nil]
 split <;> rfl
theorem QmH (x:Int):∀ (l:List Int),QaP (l++[x])=QaP l++if l.getLast?=some x then [] else [x]
 | []=>rfl
 | [a]=>by
   simp only [cA,nA,QaP,List.getLast?_singleton,Option.some.injEq]
   split
   ·rename_i h; simp [h]
   ·rename_i h; simp []
 | a::b::l=>by
   have ih:=QmH x (b::l)
   simp only [cA] at ih ⊢
   have hlast:(a::b::l).getLast?=(b::l).getLast?:=by simp
   rw [hlast]
   conv=>lhs; unfold QaP
   conv=>rhs; unfold QaP
   split
   ·exact ih
   ·rw [ih]; rfl
theorem QjH (zs:List Int):∀ m,m≤zs.length→compactUpTo zs.toArray m=QaP (zs.take m)
 | 0,_=>rfl
 | m+1,h=>by
   have hm:m<zs.length:=h
   rw [compactUpTo_succ,QjH zs m (by omega),ZW (List.getElem?_eq_getElem hm),QmH]
   congr 1
   have e:zs.toArray[m]! = zs[m]:=by rw [getElem!_pos _ _ (by simpa using hm)]; simp
   unfold keeps
   by_cases h0:m=0
   ·subst h0; simp [e]
   ·have hp:m - 1<zs.length:=by omega
    have e2:zs.toArray[m - 1]! = zs[m - 1]:=by rw [getElem!_pos _ _ (by simpa using hp)]; simp
    have e3:(zs.take m).getLast?=some zs[m - 1]:=by
     rw [List.getLast?_eq_getElem?,List.length_take,Nat.min_eq_left (by omega),List.getElem?_take,if_pos (by omega),List.getElem?_eq_getElem hp]
    rw [e3,e,e2]
    simp only [h0,false_or,ne_eq,Option.some.injEq]
    by_cases hh:zs[m]=zs[m - 1]
    ·simp [hh]
    ·have hh':¬ zs[m - 1]=zs[m]:=fun x=>hh x.symm
     simp [hh,hh']
theorem Qsf (zs:List Int):compact zs=QaP zs:=by
 unfold compact
 rw [QjH zs _ (lR _),List.take_length]
theorem Qky:∀ zs:List Int,(QaP zs).length≤zs.length
 | []=>lR _
 | [a]=>lR _
 | a::b::l=>by
   have:=Qky (b::l)
   unfold QaP
   split
   ·simp at this ⊢; omega
   ·simp at this ⊢; omega
variable {zs:List Int} {o:List (Option Ob)}
theorem Qwq {G:Nat→Option V} {T:Nat} (hk:base≤k) (ho:o[k]?=some (some (.arr v T (ints zs)))) (hl:zs.length≤1000000) :
 C Tryz.prog G base QaW [.sl k v 0 1 zs.length none] ⟨t,o⟩ fun r σ'=>r=.sl k v 0 1 (QaP zs).length none∧∃ cells,Qb cells=true∧σ'=⟨t,o.set k (some (.arr v T (ints (QaP zs)++cells)))⟩:=by
 by_cases hz:zs=[]
 ·subst hz
  refine (C_cut0 (fun p cap w=>Tryz.slices_Compact_int_empty p cap w)).conseq fun r σ' ⟨h1,h2⟩=>⟨h1,[],rfl,?_⟩
  rw [h2,show ints (QaP [])++[]=ints [] from rfl,List.set_getElem?_self ho]
 ·refine (C_cut (zs':=QaP zs++List.replicate (zs.length - (QaP zs).length) 0) (m:=(QaP zs).length) hk ho hz (by have:=Qky zs; simp; omega) (Qky zs) fun blk off cap w hH hcap=>?_).conseq fun r σ' ⟨h1,h2⟩=>⟨h1,ints (List.replicate (zs.length - (QaP zs).length) 0),Zp _,?_⟩
  ·have h:=Tryz.slices_Compact_int blk off cap zs w hH (by omega) hcap
   rw [Qsf] at h
   exact h
  ·rw [h2]; simp [ints]
structure SortF (P:Program) (f:FuncId):Prop where
 some:∀ (blk off cap:Nat) (zs:List Int) (w:World),Go.Sort.Holds (Value.int .i64) w blk off zs.toArray→blk<w.heap.size→zs.length<4611686018427387904 →
  Calls P f #[.slice (some ⟨blk,off,none⟩) zs.length cap] w fun e w'=>e=.returned (.tuple #[])∧∃ n os,w'=Go.Sort.grow (Go.Sort.putRow (Value.int .i64) (Go.Sort.ahead w n) blk off (zs.mergeSort fun x y=>decide (x≤y)).toArray) os
 none:∀ (p:Option Addr) (cap:Nat) (w:World),Calls P f #[.slice p 0 cap] w fun e w'=>e=.returned (.tuple #[])∧w'=w
theorem Qwm {f:FuncId} (S:SortF P f) {T:Nat} {n:Nat} {lim:Option Nat} (hk:base≤k) (ho:o[k]?=some (some (.arr v T (zs.map (V.int .i64))))) (hn:n=zs.length) (hl:zs.length<4611686018427387904) :
 C P G base f [.sl k v 0 1 n lim] ⟨t,o⟩ fun r σ'=>r=.tup []∧σ'=⟨t,o.set k (some (.arr v T ((zs.mergeSort fun x y=>decide (x≤y)).map (V.int .i64))))⟩:=by
 subst hn
 cases zs with
 | nil =>
   refine (QHm (fun p cap w=>S.none p cap w)).conseq fun r σ' ⟨h1,h2⟩=>⟨h1,?_⟩
   rw [h2]
   congr 1
   have hk':=(List.getElem?_eq_some_iff.1 ho).1
   apply List.ext_getElem?
   intro m
   by_cases hm:m=k
   ·subst hm; rw [ho]; simp [hk']
   ·simp [List.getElem?_set_ne (Ne.symm hm)]
 | cons z zs=>exact C_sort hk ho (by simp) (by simp) fun blk off cap w hH hb=>S.some blk off cap _ w hH hb hl
theorem sortI {P:Program} (hp:P=Tryz.prog):SortF P QbW:=by
 subst hp
 exact ⟨fun blk off cap zs w hH hb hl=>Tryz.slices_Sort_int blk off cap zs w hH hb hl,fun p cap w=>Tryz.slices_Sort_int_none p cap w⟩
end Go.Proofs.YtaidbdgndljaeaaGreatDoor
namespace Go.Proofs.YtaidbdgndljaeaaGreatDoor
open Go Go.Am Go.Rv Go.Rg
set_option maxRecDepth 100000
variable {P:Program} {G:Nat→Option V}
section
attribute [local go_sem] cA lM nA aZ lR zA zL V.cells and_true decide_false decide_true false_implies ge_iff_le inC Z1 zqx_0 zqx_1 Zu zqm_0 zqm_1 Qa6 zql_0 zql_1 true_and true_implies
def Q9 (c:List In):V:=.lst 5 (c.map fun x=>V.agg (inC x)) false
def Qz (l:List Int):V:=.lst 1 (ints l) false
def fnC (nm:List UInt8) (pl:Int) (c:List In) (F:Int) (K:List Int):List V:=[.str nm,.int .i64 pl,Q9 c,.int .i64 F,Qz K]
theorem eqIn (x y:In):((x.op==y.op)&&((x.rd==y.rd)&&((x.rs1==y.rs1)&&((x.rs2==y.rs2)&&((x.imm==y.imm)&&true)))))=decide (x=y):=by
 obtain ⟨a,b,c,d,e⟩:=x
 obtain ⟨a',b',c',d',e'⟩:=y
 simp only [In.mk.injEq]
 rw [Bool.eq_iff_iff]
 simp
theorem Xo {c:List In} {i:Nat} {x:In} (h:c[i]?=some x):(c.map fun x=>V.agg (inC x)).getD i V.any=.agg (inC x):=by simp [List.getD_eq_getElem?_getD,h]
theorem QHA (hT:Qk P tab) (nm:List UInt8) (pl F:Int) (c:List In) (K:List Int) (i:Int) (x:In) (hl:c.length≤1000000):Am.Pure P G Qee [.agg (fnC nm pl c F K),.int .i64 i,.agg (inC x)] fun v=>v=.bool (isI c i x):=by
 intro t
 refine Qp 0 (zL _) (Qt hT XX (by simp [Z1]) (Qn 12 ?_))
 by_cases h0:0≤i
 ·have h0':decide (0≤i)=true:=decide_eq_true h0
  obtain ⟨k,rfl⟩:∃ k:Nat,i=k:=⟨i.toNat,by omega⟩
  by_cases h1:k<c.length
  ·have h1':decide ((k:Int)<(c.length:Int))=true:=decide_eq_true (by omega)
   have h1'':(k:Int)<(c.length:Int):=by omega
   obtain ⟨y,hy⟩:∃ y,c[k]?=some y:=⟨_,List.getElem?_eq_getElem h1⟩
   have hD:=Xo hy
   simp only [inC] at hD
   have hr:isI c k x=decide (y=x):=by unfold isI; rw [Z2,hy]; simp
   rw [hr,← eqIn]
   simp -implicitDefEqProofs (disch:=omega) only [go_sem,↓reduceIte,reduceCtorEq,rA,rq,fnC,Q9,Qz,h0]
   iterate 9 (try (refine Qa 4 ?_; simp -implicitDefEqProofs (disch:=omega) only [go_sem,↓reduceIte,reduceCtorEq,rA,rq,rL,h0,h1'',hD,h1]))
  ·have h1':decide ((k:Int)<(c.length:Int))=false:=decide_eq_false (by omega)
   have h1'':¬ (k:Int)<(c.length:Int):=by omega
   have hr:isI c k x=false:=by unfold isI; rw [Z2,List.getElem?_eq_none (by omega)]; simp
   rw [hr]
   simp -implicitDefEqProofs (disch:=omega) only [go_sem,↓reduceIte,reduceCtorEq,rA,rq,fnC,Q9,Qz,h0]
   iterate 9 (try (refine Qa 4 ?_; simp -implicitDefEqProofs (disch:=omega) only [go_sem,↓reduceIte,reduceCtorEq,rA,rq,rL,h1'']))
 ·have h0':decide (0≤i)=false:=decide_eq_false h0
  have hr:isI c i x=false:=by unfold isI nth; rw [if_pos (by omega)]; simp
  rw [hr]
  simp -implicitDefEqProofs (disch:=omega) only [go_sem,↓reduceIte,reduceCtorEq,rA,rq,fnC,Q9,Qz,h0]
  iterate 9 (try (refine Qa 4 ?_; simp -implicitDefEqProofs (disch:=omega) only [go_sem,↓reduceIte,reduceCtorEq,rA,rq]))
theorem QmJ (hT:Qk P tab) (x:In):Am.Pure P G QdR [.agg (inC x)] fun v=>v=.bool (Xd x):=by
 intro t
 refine Qp 0 (zL _) (Qt hT ZM (by simp [Zu]) (Qn 12 ?_))
 unfold Xd
 by_cases h0:5≤x.op
 ·have h0':decide (5≤x.op)=true:=decide_eq_true h0
  simp -implicitDefEqProofs (disch:=omega) only [go_sem,↓reduceIte,reduceCtorEq,rA,rq,rL,h0]
  iterate 4 (try (refine Qa 4 ?_; simp -implicitDefEqProofs (disch:=omega) only [go_sem,↓reduceIte,reduceCtorEq,rA,rq,rL]))
  try simp
 ·have h0':decide (5≤x.op)=false:=decide_eq_false h0
  simp -implicitDefEqProofs (disch:=omega) only [go_sem,↓reduceIte,reduceCtorEq,rA,rq,rL,h0]
  iterate 4 (try (refine Qa 4 ?_; simp -implicitDefEqProofs (disch:=omega) only [go_sem,↓reduceIte,reduceCtorEq,rq]))
  try simp
theorem Qqj (hT:Qk P tab) (x:In):Am.Pure P G Qgh [.agg (inC x)] fun v=>v=.bool (Yh x):=by
 intro t
 have hB:=QmJ (P:=P) (G:=G) hT x
 unfold Yh
 simp only [inC] at hB
 refine Qp 0 (zL _) (Qt hT Y5 (by simp [Qa6]) (Qn 12 ?_))
 cases hb:Xd x with
 | true =>
   rw [hb] at hB
   simp -implicitDefEqProofs (disch:=omega) only [go_sem,↓reduceIte,reduceCtorEq,rA,rq]
   refine Qf hT ZM hB rfl 4 ?_
   simp -implicitDefEqProofs (disch:=omega) only [go_sem,↓reduceIte,reduceCtorEq,rq]
   iterate 6 (try (refine Qa 4 ?_; simp -implicitDefEqProofs (disch:=omega) only [go_sem,↓reduceIte,reduceCtorEq,rq]))
   try simp
 | false =>
   rw [hb] at hB
   simp -implicitDefEqProofs (disch:=omega) only [go_sem,↓reduceIte,reduceCtorEq,rA,rq]
   refine Qf hT ZM hB rfl 4 ?_
   simp -implicitDefEqProofs (disch:=omega) only [go_sem,↓reduceIte,reduceCtorEq,rA,rq,rL]
   by_cases h3:x.op=3
   ·have h3':(x.op==3)=true:=by simp [h3]
    iterate 6 (try (refine Qa 4 ?_; simp -implicitDefEqProofs (disch:=omega) only [go_sem,↓reduceIte,reduceCtorEq,rA,rq,rL,h3']))
    try simp [h3,QlT]
   ·have h3':(x.op==3)=false:=by simp [h3]
    iterate 6 (try (refine Qa 4 ?_; simp -implicitDefEqProofs (disch:=omega) only [go_sem,↓reduceIte,reduceCtorEq,rA,rq,h3']))
    try simp [h3]
end
section
attribute [local go_sem] cA lM nA lR zA zL V.cells and_true Qz decide_false decide_true false_implies fnC ge_iff_le gt_iff_lt inC Q9 Yv zqq_0 zqq_1 YL zqc_0 zqc_1 Ya zqy_0 zqy_1 true_and true_implies
theorem Qfl {nm:List UInt8} {pl F:Int} {c:List In} {K:List Int}:Qb (fnC nm pl c F K)=true:=by simp [fnC,Q9,Qz,Qb,Qd]
theorem QmI (hT:Qk P tab) (nm:List UInt8) (pl F:Int) (c:List In) (K:List Int) (i:Int) (hl:c.length≤1000000) (hi:-10≤i∧i≤2000000):Am.Pure P G Zm [.agg (fnC nm pl c F K),.int .i64 i] fun v=>v=.bool (XS c F i):=by
 intro t
 have hA:=QHA (P:=P) (G:=G) hT nm pl F c K i (QH 2 2 F) hl
 have hB:=QHA (P:=P) (G:=G) hT nm pl F c K (i+1) jr hl
 have w1:IntKind.i64.wrap (i+1)=i+1:=XA (by omega)
 have hn:∀ (n:Int) (x:In),Qb [.agg (fnC nm pl c F K),.int .i64 n,.agg (inC x)]=true:=fun n x=>by
  have:=Qfl (nm:=nm) (pl:=pl) (F:=F) (c:=c) (K:=K)
  simp [Qb,Qd,this,inC]
 simp only [fnC,Q9,Qz,inC,QH,jr] at hA hB hn
 unfold XS
 simp only [QH,jr]
 refine Qp 0 (zL _) (Qt hT YB (by simp [Ya]) (Qn 12 ?_))
 by_cases h0:0<F
 ·have h0':decide (0<F)=true:=decide_eq_true h0
  simp -implicitDefEqProofs (disch:=omega) only [go_sem,↓reduceIte,reduceCtorEq,rA,rq,rL,h0]
  iterate 3 (try (refine Qa 4 ?_; simp -implicitDefEqProofs (disch:=omega) only [go_sem,↓reduceIte,reduceCtorEq,rA,rq,rL]))
  refine Qf hT XX hA (hn _ ⟨22,2,2,0,F⟩) 4 ?_
  simp -implicitDefEqProofs (disch:=omega) only [go_sem,↓reduceIte,reduceCtorEq,rA,rq]
  cases hb:isI c i ⟨22,2,2,0,F⟩ with
  | true =>
    simp -implicitDefEqProofs (disch:=omega) only [go_sem,reduceCtorEq]
    iterate 4 (try (refine Qa 4 ?_; simp -implicitDefEqProofs (disch:=omega) only [go_sem,↓reduceIte,reduceCtorEq,rA,rq,rL,w1]))
    refine Qf hT XX hB (hn _ ⟨4,0,1,0,0⟩) 4 ?_
    simp -implicitDefEqProofs (disch:=omega) only [go_sem,↓reduceIte,reduceCtorEq,rq]
    iterate 4 (try (refine Qa 4 ?_; simp -implicitDefEqProofs (disch:=omega) only [go_sem,↓reduceIte,reduceCtorEq,rq]))
  | false =>
    simp -implicitDefEqProofs (disch:=omega) only [go_sem,Bool.false_eq_true]
    iterate 4 (try (refine Qa 4 ?_; simp -implicitDefEqProofs (disch:=omega) only [go_sem,↓reduceIte,reduceCtorEq,rq]))
 ·have h0':decide (0<F)=false:=decide_eq_false h0
  simp -implicitDefEqProofs (disch:=omega) only [go_sem,↓reduceIte,reduceCtorEq,rA,rq,rL,h0]
  iterate 6 (try (refine Qa 4 ?_; simp -implicitDefEqProofs (disch:=omega) only [go_sem,↓reduceIte,reduceCtorEq,rq]))
theorem QeT (hT:Qk P tab) (nm:List UInt8) (pl F:Int) (c:List In) (K:List Int) (i:Int) (hl:c.length≤1000000) (hi:-9≤i∧i≤2000000):Am.Pure P G Z5 [.agg (fnC nm pl c F K),.int .i64 i] fun v=>v=.bool (ret c F i):=by
 intro t
 have hA:=QHA (P:=P) (G:=G) hT nm pl F c K i jr hl
 have hB:=QmI (P:=P) (G:=G) hT nm pl F c K (i - 1) hl (by omega)
 have w1:IntKind.i64.wrap (i - 1)=i - 1:=XA (by omega)
 have hn:∀ (n:Int) (x:In),Qb [.agg (fnC nm pl c F K),.int .i64 n,.agg (inC x)]=true:=fun n x=>by
  have:=Qfl (nm:=nm) (pl:=pl) (F:=F) (c:=c) (K:=K)
  simp [Qb,Qd,this,inC]
 have hn2:Qb [.agg (fnC nm pl c F K),.int .i64 (i - 1)]=true:=by
  have:=Qfl (nm:=nm) (pl:=pl) (F:=F) (c:=c) (K:=K)
  simp [Qb,Qd,this]
 simp only [fnC,Q9,Qz,inC,jr] at hA hB hn hn2
 unfold ret
 simp only [jr]
 refine Qp 0 (zL _) (Qt hT QJ (by simp [YL]) (Qn 12 ?_))
 simp -implicitDefEqProofs (disch:=omega) only [go_sem,↓reduceIte,reduceCtorEq,rA,rq,rL]
 refine Qf hT XX hA (hn _ ⟨4,0,1,0,0⟩) 4 ?_
 simp -implicitDefEqProofs (disch:=omega) only [go_sem,↓reduceIte,reduceCtorEq,rA,rq,rL]
 cases hb:isI c i ⟨4,0,1,0,0⟩ with
 | false =>
   simp -implicitDefEqProofs (disch:=omega) only [go_sem,Bool.false_eq_true]
   iterate 6 (try (refine Qa 4 ?_; simp -implicitDefEqProofs (disch:=omega) only [go_sem,↓reduceIte,reduceCtorEq,rq]))
 | true =>
   by_cases h0:F=0
   ·have h0':(F==0)=true:=by simp [h0]
    simp -implicitDefEqProofs (disch:=omega) only [go_sem,reduceCtorEq,h0']
    iterate 6 (try (refine Qa 4 ?_; simp -implicitDefEqProofs (disch:=omega) only [go_sem,↓reduceIte,reduceCtorEq,rA,rq]))
    try simp [h0]
   ·have h0':(F==0)=false:=by simp [h0]
    simp -implicitDefEqProofs (disch:=omega) only [go_sem,reduceCtorEq,h0']
    iterate 3 (try (refine Qa 4 ?_; simp -implicitDefEqProofs (disch:=omega) only [go_sem,↓reduceIte,reduceCtorEq,rA,rq,w1]))
    refine Qf hT YB hB hn2 4 ?_
    simp -implicitDefEqProofs (disch:=omega) only [go_sem,↓reduceIte,reduceCtorEq,rA,rq]
    iterate 4 (try (refine Qa 4 ?_; simp -implicitDefEqProofs (disch:=omega) only [go_sem,↓reduceIte,reduceCtorEq,rq]))
    try simp [h0]
theorem QyA (hT:Qk P tab) (nm:List UInt8) (pl F:Int) (c:List In) (K:List Int) (k:Int) {base t:Nat} {o:List (Option Ob)}:C P G base ZE [.int .i64 k,.ref (.agg (fnC nm pl c F K)) 0] ⟨t,o⟩ fun v σ=>v=.bool (!decide (0≤k∧k<c.length))∧σ=⟨t,o⟩:=by
 refine Qt hT Qbn (by simp [Yv]) (Qn 12 ?_)
 by_cases h0:k<0
 ·have h0':decide (k<0)=true:=decide_eq_true h0
  simp -implicitDefEqProofs (disch:=omega) only [go_sem,↓reduceIte,reduceCtorEq,rq,h0]
  iterate 4 (try (refine Qa 4 ?_; simp -implicitDefEqProofs (disch:=omega) only [go_sem,↓reduceIte,reduceCtorEq,rq]))
  try simp; omega
 ·have h0':decide (k<0)=false:=decide_eq_false h0
  simp -implicitDefEqProofs (disch:=omega) only [go_sem,↓reduceIte,reduceCtorEq,rA,rq,rL,h0]
  iterate 4 (try (refine Qa 4 ?_; simp -implicitDefEqProofs (disch:=omega) only [go_sem,↓reduceIte,reduceCtorEq,rA,rq]))
  congr 1
  rw [Bool.eq_iff_iff]
  simp
  omega
end
section
attribute [local go_sem] nF nT cA lM nA aZ lR Nat.mul_one Nat.one_mul Nat.succ_ne_zero zA zL Nat.zero_mul Option.getD_none Option.getD_some Option.isSome_none Option.isSome_some V.cells and_true beq_self_eq_true bne_self_eq_false Qz decide_false decide_true false_implies fnC ge_iff_le gt_iff_lt inC Q9 Qw not_false_eq_true not_true_eq_false Za zqd_0 zqd_1 QyS zqd_2 zqd_3 zqd_4 QE9 QE8 QE7 QE6 QE5 true_and true_implies
def fnR (nm:List UInt8) (pl:Int) (c:List In) (F:Int) (K:List Int):V:=.ref (.agg (fnC nm pl c F K)) 0
theorem QrP {n:Int} (h:-9223372036854775808≤n∧n≤9223372036854775807):-2305843009213693952≤n.tdiv 4∧n.tdiv 4≤2305843009213693951:=by
 rcases Int.le_total 0 n with h0 | h0
 ·rw [Int.tdiv_eq_ediv_of_nonneg h0]; omega
 ·obtain ⟨m,rfl⟩:∃ m,n=-m:=⟨-n,by omega⟩
  rw [Int.neg_tdiv,Int.tdiv_eq_ediv_of_nonneg (by omega)]; omega
variable {x:In} {k:Nat} {c:List In} {i:Int}
theorem Qov (h:c[k]?=some x):QsA i k (c.drop k)=((Yh x&&decide (tgt x (k:Int)=i)) || QsA i (k+1) (c.drop (k+1))):=by
 have hl:=(List.getElem?_eq_some_iff.1 h).1
 rw [List.drop_eq_getElem_cons hl,(List.getElem?_eq_some_iff.1 h).2]
 rfl
abbrev enJ (nm:List UInt8) (pl:Int) (c:List In) (F:Int) (K:List Int) (i:Int):Nat→Fr→H→Prop:=fun k fr σ=>∃ t,QsA i 0 c=QsA i k (c.drop k)∧Qg fr 1=.int .i64 i∧Qg fr 2=.ref (.agg (fnC nm pl c F K)) 0∧Qg fr 30=Q9 c∧Qg fr 31=.int .i64 c.length∧Qg fr 32=.int .i64 ((k:Nat):Int)∧σ=⟨t,[none]⟩
abbrev enE (c:List In) (i:Int):AE→Fr→H→Prop:=fun e fr σ=>(e=.ret∧QsA i 0 c=true∧Qg fr 4=.bool false)∨(e=.ex 0∧QsA i 0 c=false)
theorem Qyf (hT:Qk P tab) {nm:List UInt8} {pl F:Int} {K:List Int} (hl:c.length≤1000000) (hc:∀ x∈c,Zq x) (hx:c[k]?=some x) {fr:Fr} {σ:H} (hJ:enJ nm pl c F K i k fr σ) :
 W P G 49 0 (zg QE9 [] (.seq (zw 33 .skip (.exit 0)) (.seq (.block 1 (zg QE8 [34,35,36] (zg QE7 [37,38,39,40,41,42,43,44,45,46] (zw 47 (zg QE6 [] .ret) .skip)))) (.reg QE5 [48])))) fr σ (QbQ (fun fr σ=>∃ fr' σ',Shift G 49 0 fr σ fr' σ'∧enJ nm pl c F K i (k+1) fr' σ') (enE c i)):=by
 obtain ⟨t,hh,f1,f2,f30,f31,f32,rfl⟩:=hJ
 have hlt:=(List.getElem?_eq_some_iff.1 hx).1
 have hn:=Qov (i:=i) hx
 rw [← hh] at hn
 have hD:=Xo hx
 have hJm:=Qqj (P:=P) (G:=G) hT x
 have hxo:=hc x (List.mem_of_getElem? hx)
 have hi64:-9223372036854775808≤x.imm∧x.imm≤9223372036854775807:=by have:=hxo.2.2.2.2; unfold i64 at this; omega
 have h4:=QrP hi64
 have w1:IntKind.i64.wrap (x.imm.tdiv 4)=x.imm.tdiv 4:=XA (by omega)
 have w2:IntKind.i64.wrap ((k:Int)+x.imm.tdiv 4)=tgt x k:=by rw [XA (by omega)]; rfl
 have e2:=ZT hlt (by omega)
 simp only [inC] at hD hJm
 refine Qh [(1,.int .i64 i),(2,.ref (.agg (fnC nm pl c F K)) 0),(30,Q9 c),(31,.int .i64 c.length),(32,.int .i64 ((k:Nat):Int))] ⟨f1,f2,f30,f31,f32,trivial⟩  12 ?_
 simp -implicitDefEqProofs (disch:=omega) only [go_sem,↓reduceIte,rq,hlt]
 iterate 6 (try (refine Qa 4 ?_; simp -implicitDefEqProofs (disch:=omega) only [go_sem,↓reduceIte,reduceCtorEq,rA,rq,hlt,hD]))
 cases hj:Yh x with
 | false =>
   rw [hj] at hJm hn
   rw [Bool.false_and,Bool.false_or] at hn
   refine Qf hT Y5 hJm rfl 4 ?_
   simp -implicitDefEqProofs (disch:=omega) only [go_sem,↓reduceIte,rq]
   iterate 6 (try (refine Qa 4 ?_; simp -implicitDefEqProofs (disch:=omega) only [go_sem,↓reduceIte,rq]))
   refine ⟨_,_,Shift.drop (o':=[none]) (t':=t+1) (by simp [YR]) (lR _) (zL _),t+1,hn,?_⟩
   simp -implicitDefEqProofs (disch:=omega) only [go_sem,↓reduceIte,rq,e2]
 | true =>
   rw [hj] at hJm hn
   rw [Bool.true_and] at hn
   refine Qf hT Y5 hJm rfl 4 ?_
   simp -implicitDefEqProofs (disch:=omega) only [go_sem,↓reduceIte,rA,rq]
   by_cases he:tgt x k=i
   ·have he':(tgt x k==i)=true:=by simp [he]
    rw [decide_eq_true he,Bool.true_or] at hn
    iterate 9 (try (refine Qa 4 ?_; simp -implicitDefEqProofs (disch:=omega) only [go_sem,↓reduceIte,rA,rq,Int.reduceEq,w1,w2,he']))
    exact .inl ⟨rfl,hn,rfl⟩
   ·have he':(tgt x k==i)=false:=by simp [he]
    rw [decide_eq_false he,Bool.false_or] at hn
    iterate 9 (try (refine Qa 4 ?_; simp -implicitDefEqProofs (disch:=omega) only [go_sem,↓reduceIte,rA,rq,Int.reduceEq,w1,w2,he']))
    refine ⟨_,_,Shift.drop (o':=[none]) (t':=t+1) (by simp [YR]) (lR _) (zL _),t+1,hn,?_⟩
    simp -implicitDefEqProofs (disch:=omega) only [go_sem,↓reduceIte,rq,e2]
theorem Qwo (hT:Qk P tab) (nm:List UInt8) (pl F:Int) (c:List In) (K:List Int) (i:Int) (hl:c.length≤1000000) (hc:∀ x∈c,Zq x) (hi:-9≤i∧i≤2000000):Am.Pure P G Qc6 [.agg (fnC nm pl c F K),.int .i64 i] fun v=>v=.bool (ends c i):=by
 intro t
 have h3:=QHA (P:=P) (G:=G) hT nm pl F c K (i - 1) (QH 17 0 3) hl
 have h4:=QHA (P:=P) (G:=G) hT nm pl F c K (i - 1) (QH 17 0 4) hl
 have h5:=QHA (P:=P) (G:=G) hT nm pl F c K i Qbe hl
 have w1:IntKind.i64.wrap (i - 1)=i - 1:=XA (by omega)
 have hn:∀ (n:Int) (x:In),Qb [.agg (fnC nm pl c F K),.int .i64 n,.agg (inC x)]=true:=fun n x=>by
  have:=Qfl (nm:=nm) (pl:=pl) (F:=F) (c:=c) (K:=K)
  simp [Qb,Qd,this,inC]
 have hnl:=Qfl (nm:=nm) (pl:=pl) (F:=F) (c:=c) (K:=K)
 simp only [fnC,Q9,Qz,inC,QH,Qbe] at h3 h4 h5 hn
 unfold ends QyK
 simp only [QH,Qbe]
 refine Qp 0 (zL _) (Qt hT Zk (by simp [Za]) (Qn 5 ?_))
 simp -implicitDefEqProofs (disch:=omega) only [go_sem,↓reduceIte,reduceCtorEq,rq]
 refine Q8 (Shift.freeze (k:=0) (v:=t) (T:=37) (cs:=fnC nm pl c F K) (zL _) rfl hnl) ?_
 simp only [fnC,Q9,Qz,inC,YG,Zd,QiX,Qaa,Xt,List.set_cons_zero,Option.map_none]
 generalize isI c (i - 1) ⟨22,17,0,0,3⟩=b3 at *
 generalize isI c (i - 1) ⟨22,17,0,0,4⟩=b4 at *
 generalize isI c i ⟨64,0,0,0,0⟩=b5 at *
 refine Qa 1 ?_
 simp -implicitDefEqProofs (disch:=omega) only [go_sem,↓reduceIte,reduceCtorEq]
 refine QiJ (fun fr σ=>Qg fr 1=.int .i64 i∧Qg fr 2=.ref (.agg (fnC nm pl c F K)) 0∧Qg fr 5=.bool (b3 || b4)∧σ=⟨t+1,[none]⟩) ?_ fun fr σ hJ=>?_
 ·refine Qn 12 ?_
  simp -implicitDefEqProofs (disch:=omega) only [go_sem,↓reduceIte,reduceCtorEq,rA,rq,rL,w1]
  refine Qf hT XX h3 (hn _ ⟨22,17,0,0,3⟩) 4 ?_
  simp -implicitDefEqProofs (disch:=omega) only [go_sem,↓reduceIte,reduceCtorEq,rA,rq]
  cases b3 with
  | true =>
    simp -implicitDefEqProofs (disch:=omega) only [go_sem,reduceCtorEq]
    iterate 6 (try (refine Qa 4 ?_; simp -implicitDefEqProofs (disch:=omega) only [go_sem,↓reduceIte,reduceCtorEq,rq]))
    try simp
  | false =>
    simp -implicitDefEqProofs (disch:=omega) only [go_sem,Bool.false_eq_true]
    iterate 2 (try (refine Qa 4 ?_; simp -implicitDefEqProofs (disch:=omega) only [go_sem,↓reduceIte,reduceCtorEq,rA,rq,rL,w1]))
    refine Qf hT XX h4 (hn _ ⟨22,17,0,0,4⟩) 4 ?_
    simp -implicitDefEqProofs (disch:=omega) only [go_sem,↓reduceIte,reduceCtorEq,rq]
    iterate 6 (try (refine Qa 4 ?_; simp -implicitDefEqProofs (disch:=omega) only [go_sem,↓reduceIte,reduceCtorEq,rA,rq,rL,rT,Nat.reduceSub,Nat.reduceMul,Int.reduceToNat,Int.reduceLE,Int.reduceLT,Int.reduceEq,Int.reduceNe,Nat.reduceBEq,Nat.reduceBNe,Int.reduceBEq,Int.reduceBNe,fnR]))
    try simp
 obtain ⟨f1,f2,f5,rfl⟩:=hJ
 refine Qh9 [(1,.int .i64 i),(2,.ref (.agg (fnC nm pl c F K)) 0),(5,.bool (b3 || b4))] ⟨f1,f2,f5,trivial⟩ ?_
 refine Qa 12 ?_
 cases hb:b3 || b4 with
 | false =>
   simp -implicitDefEqProofs (disch:=omega) only [go_sem,↓reduceIte,rq]
   iterate 9 (try (refine Qa 4 ?_; simp -implicitDefEqProofs (disch:=omega) only [go_sem,↓reduceIte,rq]))
 | true =>
   simp -implicitDefEqProofs (disch:=omega) only [go_sem,↓reduceIte,reduceCtorEq,rA,rq,rL]
   iterate 2 (try (refine Qa 4 ?_; simp -implicitDefEqProofs (disch:=omega) only [go_sem,↓reduceIte,reduceCtorEq,rA,rq,rL,rT,Nat.reduceSub,Nat.reduceMul,Int.reduceToNat,Int.reduceLE,Int.reduceLT,Int.reduceEq,Int.reduceNe,Nat.reduceBEq,Nat.reduceBNe,Int.reduceBEq,Int.reduceBNe,fnR]))
   refine Qf hT XX h5 (hn _ ⟨64,0,0,0,0⟩) 4 ?_
   simp -implicitDefEqProofs (disch:=omega) only [go_sem,↓reduceIte,rA,rq]
   cases b5 with
   | false =>
     simp -implicitDefEqProofs (disch:=omega) only [go_sem]
     iterate 9 (try (refine Qa 4 ?_; simp -implicitDefEqProofs (disch:=omega) only [go_sem,↓reduceIte,rq]))
   | true =>
     simp -implicitDefEqProofs (disch:=omega) only [go_sem,reduceCtorEq]
     iterate 5 (try (refine Qa 4 ?_; simp -implicitDefEqProofs (disch:=omega) only [go_sem,↓reduceIte,rA,rq,rL]))
     refine Xn c (enJ nm pl c F K i) (enE c i) ⟨t+1,by simp,?_⟩ (fun k x hx fr σ hJ=>Qyf hT hl hc hx hJ) (fun k hk fr σ hJ=>?_) (fun e fr σ hE=>?_)
     ·simp -implicitDefEqProofs (disch:=omega) only [go_sem,↓reduceIte,rq]
      try simp
     ·obtain ⟨t2,hh,f1,f2,f30,f31,f32,rfl⟩:=hJ
      rw [hk,List.drop_length] at hh
      refine Qh [(1,.int .i64 i),(2,.ref (.agg (fnC nm pl c F K)) 0),(30,Q9 c),(31,.int .i64 c.length),(32,.int .i64 ((k:Nat):Int))] ⟨f1,f2,f30,f31,f32,trivial⟩  12 ?_
      simp -implicitDefEqProofs (disch:=omega) only [go_sem,↓reduceIte,rq,hk,Nat.lt_irrefl]
      exact .inr ⟨rfl,hh⟩
     ·rcases hE with ⟨rfl,hh,f4⟩ | ⟨rfl,hh⟩
      ·refine Qa 12 ?_
       simp -implicitDefEqProofs (disch:=omega) only [go_sem,f4,hh]
      ·refine Qa 12 ?_
       simp -implicitDefEqProofs (disch:=omega) only [go_sem,↓reduceIte,hh]
end
end Go.Proofs.YtaidbdgndljaeaaGreatDoor
namespace Go.Proofs.YtaidbdgndljaeaaGreatDoor
open Go Go.Am Go.Rv Go.Rg
set_option maxRecDepth 100000
variable {G:Nat→Option V}
section
attribute [local go_sem] nF nT aZ lR Nat.mul_one Nat.one_mul Nat.succ_ne_zero zA zL Nat.zero_mul Option.getD_none Option.getD_some Option.isSome_none Option.isSome_some beq_self_eq_true bne_self_eq_false decide_false decide_true ge_iff_le gt_iff_lt Qw Y9 zq7_0 zq7_1 QsS zq7_2 zq7_3 zq7_4 zq7_5 zq7_6 zq7_7 zq7_8 QFo
theorem Qv5 (a b:Int):QaP ([a,b].mergeSort fun x y=>decide (x≤y))=two a b:=by
 have h1:([a,b].mergeSort fun x y=>decide (x≤y))=if a≤b then [a,b] else [b,a]:=by
  simp [List.mergeSort,List.MergeSort.Internal.splitInTwo,List.merge]
 rw [h1]
 unfold two
 by_cases h:a≤b
 ·rw [if_pos h]
  by_cases h2:a<b
  ·rw [if_pos h2,QaP,if_neg (by omega),QaP]
  ·have:a=b:=by omega
   subst this
   rw [if_neg h2,if_neg h2,QaP,if_pos rfl,QaP]
 ·rw [if_neg h,if_neg (by omega),if_pos (by omega),QaP,if_neg (by omega),QaP]
theorem QoW (a:Int):QaP ([a].mergeSort fun x y=>decide (x≤y))=[a]:=by simp [QaP]
def QEN (n:Nat) (l:List Int):List Int:=l.filter fun k:Int=>!(decide (k<0) || decide ((n:Int)≤k))
variable {c:List In} {F:Int}
theorem QGb (hT:Qk Tryz.prog tab) {nm:List UInt8} {pl:Int} {K:List Int} {out:List Int} {t w:Nat} {X:Option Ob} (ho:out.length≤2) {fr:Fr} {Q:V→H→Prop}
 (hk:∀ t' cs,Qb cs=true→Q (.sl 2 w 0 1 (QEN c.length (QaP (out.mergeSort fun x y=>decide (x≤y)))).length none) ⟨t',[none,X,some (.arr w 3 (ints (QEN c.length (QaP (out.mergeSort fun x y=>decide (x≤y))))++cs))]⟩)
 (f2:Qg fr 2=.ref (.agg (fnC nm pl c F K)) 0) (f6:Qg fr 6=.sl 2 w 0 1 out.length none) :
 W Tryz.prog G 59 0 (zg QFo [53,54] (zg QsS [55,56,57,58] .ret)) fr ⟨t,[none,X,some (.arr w 3 (ints out))]⟩ (QvY G [RV.tmp 4] Q):=by
 have hS:=Qwm (P:=Tryz.prog) (G:=G) (sortI rfl) (base:=0) (k:=2) (v:=w) (T:=3) (t:=t) (o:=[none,X,some (.arr w 3 (ints out))]) (zs:=out) (n:=out.length) (lim:=none) (zL _) rfl rfl (by omega)
 have hml:(out.mergeSort fun x y=>decide (x≤y)).length=out.length:=by simp
 generalize hq:(out.mergeSort fun x y=>decide (x≤y))=q at *
 have hC:=Qwq (G:=G) (base:=0) (k:=2) (v:=w) (T:=3) (t:=t) (o:=[none,X,some (.arr w 3 (ints q))]) (zs:=q) (zL _) rfl (by omega)
 rw [hml] at hC
 have hcl:=Qky q
 refine Qh [(2,.ref (.agg (fnC nm pl c F K)) 0),(6,.sl 2 w 0 1 out.length none)] ⟨f2,f6,trivial⟩  12 ?_
 simp -implicitDefEqProofs (disch:=omega) only [go_sem,↓reduceIte,rq,fnC,Q9,Qz,inC]
 refine call hT QbK hS 12 fun v σ hv=>?_
 obtain ⟨rfl,rfl⟩:=hv
 simp -implicitDefEqProofs (disch:=omega) only [go_sem,↓reduceIte,rq]
 refine call hT Qd4 hC 12 fun v σ hv=>?_
 obtain ⟨rfl,cells,hcn,rfl⟩:=hv
 have hD:=Qo3 (P:=Tryz.prog) (G:=G) hT (base:=0) (t:=t) (g:=ZE) (w:=w) (o:=[none,X]) (cap:=[fnR nm pl c F K]) (cs:=cells) hcn (p:=fun k=>decide (k<0) || decide ((c.length:Int)≤k)) (c:=QaP q) (by simp) (fun w' cs t n hn=>CV.of hT Qbn ((QyA (P:=Tryz.prog) (G:=G) hT nm pl F c K n).conseq fun v σ hv=>⟨by
  rw [hv.1]; congr 1; rw [Bool.eq_iff_iff]; simp,t,lR _,hv.2⟩)) (by omega)
 simp only [fnR,fnC,Q9,Qz,inC,lC,lN,cA,nA] at hD
 simp -implicitDefEqProofs (disch:=omega) only [go_sem,↓reduceIte,rq]
 refine call hT ZX hD 12 fun v σ hv=>?_
 obtain ⟨t',cs,_,hcs,rfl,rfl⟩:=hv
 simp -implicitDefEqProofs (disch:=omega) only [go_sem,↓reduceIte,rA,rq]
 exact hk t' cs hcs
theorem Qq6 {i:Int} {x:In} (h:nth c i=some x):next c F i=if ret c F i || ends c i then [] else QEN c.length (Rg.ways x i):=by unfold next; rw [h]; rfl
theorem Qry (hT:Qk Tryz.prog tab) (nm:List UInt8) (pl F:Int) (c:List In) (K:List Int) (i:Int) (hl:c.length≤1000000) (hc:∀ x∈c,Zq x) (hi:-9≤i∧i≤2000000):Am.Pure Tryz.prog G Qc5 [.agg (fnC nm pl c F K),.int .i64 i] fun v=>v=Qz (next c F i):=by
 have hR:=QeT (P:=Tryz.prog) (G:=G) hT nm pl F c K i hl hi
 have hE:=Qwo (P:=Tryz.prog) (G:=G) hT nm pl F c K i hl hc hi
 have hnl:=Qfl (nm:=nm) (pl:=pl) (F:=F) (c:=c) (K:=K)
 have hn2:Qb [.agg (fnC nm pl c F K),.int .i64 i]=true:=by
  simp [Qb,Qd,hnl]
 simp only [fnC,Q9,Qz,inC] at hR hE hn2
 refine Qe5 (fun t=>?_) (by simp [Qz,Qd])
 refine Qt hT YI (by simp [Y9]) (Qn 5 ?_)
 simp -implicitDefEqProofs (disch:=omega) only [go_sem,↓reduceIte,reduceCtorEq,rq,fnC,Q9,Qz,inC,V.cells,and_true,nA]
 refine Q8 (Shift.freeze (k:=0) (v:=t) (T:=37) (cs:=fnC nm pl c F K) (zL _) rfl hnl) ?_
 simp only [fnC,Q9,Qz,inC,YG,Zd,QiX,Qaa,Xt,List.set_cons_zero,Option.map_none]
 refine Qa 12 ?_
 by_cases h0:i<0
 ·have h0':decide (i<0)=true:=decide_eq_true h0
  have hr:next c F i=[]:=by unfold next nth; rw [if_pos h0]
  simp -implicitDefEqProofs (disch:=omega) only [go_sem,↓reduceIte,reduceCtorEq,rq,and_true,h0]
  iterate 9 (try (refine Qa 4 ?_; simp -implicitDefEqProofs (disch:=omega) only [go_sem,↓reduceIte,reduceCtorEq,rq,true_and]))
  rw [hr]
  exact .inl (.lst 0 1 [] [] true .nil (.inl rfl))
 have h0':decide (i<0)=false:=decide_eq_false h0
 obtain ⟨k,rfl⟩:∃ k:Nat,i=k:=⟨i.toNat,by omega⟩
 by_cases h1:c.length≤k
 ·have h1':decide ((c.length:Int)≤(k:Int))=true:=decide_eq_true (by omega)
  have hr:next c F k=[]:=by unfold next; rw [Z2,List.getElem?_eq_none h1]
  simp -implicitDefEqProofs (disch:=omega) only [go_sem,↓reduceIte,reduceCtorEq,rA,rq,rL,V.cells,lM,true_implies,and_true,h0]
  iterate 9 (try (refine Qa 4 ?_; simp -implicitDefEqProofs (disch:=omega) only [go_sem,↓reduceIte,reduceCtorEq,rq,true_and,h1]))
  rw [hr]
  exact .inl (.lst 0 1 [] [] true .nil (.inl rfl))
 have h1':decide ((c.length:Int)≤(k:Int))=false:=decide_eq_false (by omega)
 have h1'':¬ (c.length:Int)≤(k:Int):=by omega
 have hlt:k<c.length:=by omega
 obtain ⟨x,hx⟩:∃ x,c[k]?=some x:=⟨_,List.getElem?_eq_getElem hlt⟩
 have hr:=Qq6 (F:=F) (show nth c (k:Int)=some x by rw [Z2]; exact hx)
 simp -implicitDefEqProofs (disch:=omega) only [go_sem,↓reduceIte,reduceCtorEq,rA,rq,rL,V.cells,lM,true_implies,and_true,h0]
 iterate 3 (try (refine Qa 4 ?_; simp -implicitDefEqProofs (disch:=omega) only [go_sem,↓reduceIte,reduceCtorEq,rA,rq,V.cells,false_implies,and_true,h1]))
 refine Qf hT QJ hR hn2 4 ?_
 cases hrt:ret c F k with
 | true =>
   rw [hrt] at hr
   simp -implicitDefEqProofs (disch:=omega) only [go_sem,↓reduceIte,reduceCtorEq,rq]
   iterate 6 (try (refine Qa 4 ?_; simp -implicitDefEqProofs (disch:=omega) only [go_sem,↓reduceIte,reduceCtorEq,rq,true_and]))
   rw [hr]
   exact .inl (.lst 0 1 [] [] true .nil (.inl rfl))
 | false =>
   simp -implicitDefEqProofs (disch:=omega) only [go_sem,↓reduceIte,reduceCtorEq,rA,rq,V.cells,false_implies,and_true]
   iterate 1 (try (refine Qa 4 ?_; simp -implicitDefEqProofs (disch:=omega) only [go_sem,↓reduceIte,reduceCtorEq,rA,rq]))
   refine Qf hT Zk hE hn2 2 ?_
   cases hen:ends c k with
   | true =>
     rw [hrt,hen] at hr
     simp -implicitDefEqProofs (disch:=omega) only [go_sem,↓reduceIte,reduceCtorEq,rq]
     iterate 6 (try (refine Qa 4 ?_; simp -implicitDefEqProofs (disch:=omega) only [go_sem,↓reduceIte,reduceCtorEq,rq,true_and]))
     rw [hr]
     exact .inl (.lst 0 1 [] [] true .nil (.inl rfl))
   | false =>
     rw [hrt,hen] at hr
     simp -implicitDefEqProofs (disch:=omega) only [go_sem,↓reduceIte,reduceCtorEq,rq]
     have hD:=Xo hx
     simp only [inC] at hD
     refine Qa 16 ?_
     simp -implicitDefEqProofs (disch:=omega) only [go_sem,↓reduceIte,reduceCtorEq,rA,rq,rL,V.cells,lM,false_implies,true_implies,and_true,cA,nA,hD,hlt]
     have hJm:=Qqj (P:=Tryz.prog) (G:=G) hT x
     have hBr:=QmJ (P:=Tryz.prog) (G:=G) hT x
     have hxo:=hc x (List.mem_of_getElem? hx)
     have hi64:-9223372036854775808≤x.imm∧x.imm≤9223372036854775807:=by have:=hxo.2.2.2.2; unfold i64 at this; omega
     have h4:=QrP hi64
     have w1:IntKind.i64.wrap (x.imm.tdiv 4)=x.imm.tdiv 4:=XA (by omega)
     have w2:IntKind.i64.wrap ((k:Int)+x.imm.tdiv 4)=tgt x k:=by rw [XA (by omega)]; rfl
     have w3:IntKind.i64.wrap ((k:Int)+1)=(k:Int)+1:=XA (by omega)
     have hap:∀ (l:List Int) (y:Int),ints l++[V.int .i64 y]=ints (l++[y]):=fun l y=>by simp [ints]
     simp only [inC] at hJm hBr
     refine Q8 (Shift.own (s:=6) (z:=0) (sz:=1) (T:=3) (by simp -implicitDefEqProofs (disch:=omega) only [go_sem,↓reduceIte,reduceCtorEq,rq]) (by decide)) ?_
     simp -implicitDefEqProofs (disch:=omega) only [go_sem,↓reduceIte,reduceCtorEq,rA,rq,H.push]
     refine Qa 1 ?_
     simp -implicitDefEqProofs (disch:=omega) only [go_sem]
     refine QiJ (fun fr σ=>Qg fr 1=.int .i64 (k:Int)∧Qg fr 2=.ref (.agg (fnC nm pl c F K)) 0∧Qg fr 5=.ptr 1 (t+1) 0∧∃ t2 w,Qg fr 6=.sl 2 w 0 1 (if Yh x then [tgt x k] else []).length none∧σ=⟨t2,[none,some (.arr (t+1) 47 (inC x)),some (.arr w 3 (ints (if Yh x then [tgt x k] else [])))]⟩) ?_ fun fr σ hJ=>?_
     ·refine Qn 6 ?_
      simp -implicitDefEqProofs (disch:=omega) only [go_sem,↓reduceIte,reduceCtorEq,rA,rq,fnC,Q9,Qz,inC,false_implies,and_true]
      refine Qf hT Y5 hJm rfl 4 ?_
      cases hj:Yh x with
      | false =>
        simp -implicitDefEqProofs (disch:=omega) only [go_sem,↓reduceIte,reduceCtorEq,rq,true_and]
        iterate 4 (try (refine Qa 4 ?_; simp -implicitDefEqProofs (disch:=omega) only [go_sem,↓reduceIte,reduceCtorEq,rA,rq,rL,rT,Nat.reduceSub,Nat.reduceMul,Int.reduceToNat,Int.reduceLE,Int.reduceLT,Int.reduceEq,Int.reduceNe,Nat.reduceBEq,Nat.reduceBNe,fnC,Q9,Qz,inC,V.cells,lM,false_implies,true_implies,true_and,and_true,not_true_eq_false,not_false_eq_true,Int.reduceBEq,Int.reduceBNe,cA,nA]))
        try simp [ints]
      | true =>
        simp -implicitDefEqProofs (disch:=omega) only [go_sem,↓reduceIte,reduceCtorEq,rq]
        iterate 4 (try (refine Qa 4 ?_; simp -implicitDefEqProofs (disch:=omega) only [go_sem,↓reduceIte,reduceCtorEq,rA,rq,rL,Int.reduceEq,V.cells,true_implies,true_and,and_true,not_false_eq_true,cA,nA,w1,w2]))
        try simp [ints]
     obtain ⟨f1,f2,f5,t2,w,f6,rfl⟩:=hJ
     refine Qa 1 ?_
     simp -implicitDefEqProofs (disch:=omega) only [go_sem,inC]
     have hbj:Xd x=true→Yh x=true:=fun h=>by unfold Yh; rw [h]; rfl
     have hway:Rg.ways x k=QaP (((if Yh x then [tgt x k] else [])++(if Xd x || !Yh x then [(k:Int)+1] else [])).mergeSort fun a b=>decide (a≤b)):=by
      unfold Rg.ways
      cases hb:Xd x with
      | true=>rw [hbj hb]; exact (Qv5 _ _).symm
      | false =>
        cases hj:Yh x with
        | true=>exact (QoW _).symm
        | false=>exact (QoW _).symm
     have hlen:((if Yh x then [tgt x k] else [])++(if Xd x || !Yh x then [(k:Int)+1] else [])).length≤2:=by
      rw [lA]; split <;> split <;> simp
     generalize ho1:(if Yh x then [tgt x k] else [])=o1 at *
     have hl1:o1.length≤2:=by rw [lA] at hlen; omega
     refine QiJ (fun fr σ=>Qg fr 2=.ref (.agg (fnC nm pl c F K)) 0∧∃ t3 w,Qg fr 6=.sl 2 w 0 1 (o1++(if Xd x || !Yh x then [(k:Int)+1] else [])).length none∧σ=⟨t3,[none,some (.arr (t+1) 47 (inC x)),some (.arr w 3 (ints (o1++(if Xd x || !Yh x then [(k:Int)+1] else []))))]⟩) ?_ fun fr σ hJ=>?_
     ·have hsn:o1.length+1=(o1++[(k:Int)+1]).length:=by simp
      have hb1:o1.length+1≤9223372036854775807:=by omega
      refine Qh [(1,.int .i64 (k:Int)),(2,.ref (.agg (fnC nm pl c F K)) 0),(5,.ptr 1 (t+1) 0),(6,.sl 2 w 0 1 o1.length none)] ⟨f1,f2,f5,f6,trivial⟩  6 ?_
      simp -implicitDefEqProofs (disch:=omega) only [go_sem,↓reduceIte,reduceCtorEq,rA,rq,fnC,Q9,Qz,inC,false_implies,and_true]
      refine Qf hT ZM hBr rfl 4 ?_
      cases hb:Xd x with
      | true =>
        simp -implicitDefEqProofs (disch:=omega) only [go_sem,↓reduceIte,rq]
        iterate 6 (try (refine Qa 4 ?_; simp -implicitDefEqProofs (disch:=omega) only [go_sem,↓reduceIte,reduceCtorEq,rq,rL,V.cells,true_and,and_true,cA,nA,w3,hap,Qq]))
        try simp []
      | false =>
        simp -implicitDefEqProofs (disch:=omega) only [go_sem,↓reduceIte,reduceCtorEq,rA,rq,false_implies,and_true]
        iterate 1 (try (refine Qa 4 ?_; simp -implicitDefEqProofs (disch:=omega) only [go_sem,↓reduceIte,reduceCtorEq,rA,rq,rL,rT,Nat.reduceSub,Nat.reduceMul,Int.reduceToNat,Int.reduceLE,Int.reduceLT,Int.reduceEq,Int.reduceNe,Nat.reduceBEq,Nat.reduceBNe,fnC,Q9,Qz,inC,V.cells,lM,false_implies,true_implies,true_and,and_true,not_true_eq_false,not_false_eq_true,Int.reduceBEq,Int.reduceBNe,cA,nA]))
        refine Qf hT Y5 hJm rfl 4 ?_
        cases hj:Yh x with
        | true =>
          simp -implicitDefEqProofs (disch:=omega) only [go_sem,↓reduceIte,reduceCtorEq,rA,rq]
          iterate 6 (try (refine Qa 4 ?_; simp -implicitDefEqProofs (disch:=omega) only [go_sem,↓reduceIte,rq,true_and]))
          try simp []
        | false =>
          simp -implicitDefEqProofs (disch:=omega) only [go_sem,↓reduceIte,rA,rq]
          iterate 6 (try (refine Qa 4 ?_; simp -implicitDefEqProofs (disch:=omega) only [go_sem,↓reduceIte,reduceCtorEq,rq,rL,V.cells,true_and,and_true,cA,nA,w3,hap,Qq]))
          try simp []
     obtain ⟨f2,t3,w,f6,rfl⟩:=hJ
     refine QGb hT hlen (fun t' cs hcs=>?_) f2 f6
     rw [← hway]
     rw [if_neg (by simp [])] at hr
     rw [hr]
     have hfz:Qaa 2 w (ints (QEN c.length (Rg.ways x k))++cs) (.sl 2 w 0 1 (QEN c.length (Rg.ways x k)).length none)=Qz (QEN c.length (Rg.ways x k)):=by
      have hle:(QEN c.length (Rg.ways x k)).length≤(ints (QEN c.length (Rg.ways x k))).length+cs.length:=by rw [Qq]; omega
      simp [Qaa,Qcb,Qz,List.take_left' (Qq _),hle]
     refine .inr ⟨2,w,3,_,rfl,?_,?_,?_⟩
     ·rw [Yp,Zp,hcs]; rfl
     ·rw [hfz]; simp [Qz,Qd]
     ·rw [hfz]; exact .refl _
end
end Go.Proofs.YtaidbdgndljaeaaGreatDoor
namespace Go.Rg
open Go Go.Am Go.Rv
set_option maxRecDepth 100000
def encs (l:List In):List Int:=l.filterMap fun x=>if (enc T x).2=0 then some (enc T x).1 else none
def nameAt (i:Nat):List UInt8:=[102,UInt8.ofNat (97+i % 26),UInt8.ofNat (97+i / 26)]
def Qln (m:Im) (l:List In):Im:=⟨m.data,m.syms++[(nameAt m.syms.length,4 * (m.code.length:Int))],m.code++encs l⟩
def ZR (ls:List (List In)) (d:Int):Im:=ls.foldl Qln ⟨d,[],[]⟩
def Qoo (x:In):Prop:=¬ (x.op=3∧x.rd=1)
variable {x:In} {i:Nat} {c l:List In} {pl pl' F d:Int} {ats' a b:List Int}
theorem QmW {ats:List Int} (h:Qoo x):XN ats pl c F i x=XN ats' pl' c F i x:=by
 unfold XN
 by_cases hj:Yh x=true
 ·rw [if_pos hj,if_pos hj]
 ·rw [if_neg hj,if_neg hj]
  by_cases ho:x.op=3
  ·rw [if_pos ho,if_pos ho]
   have:¬ x.rd=1:=fun e=>h ⟨ho,e⟩
   simp [this]
  ·rw [if_neg ho,if_neg ho]
theorem QoA {ats:List Int} (h:Qoo x):Yi ats pl c F i x=Yi ats' pl' c F i x:=by
 unfold Yi
 rw [QmW (ats:=ats) (ats':=ats') (pl:=pl) (pl':=pl') h]
theorem QjF {ats ats':List Int} {pl pl':Int} {c:List In} {F:Int}:∀ {i:Nat} {ws:List Int},(∀ w∈ws,∀ x,dec w=some x→Qoo x)→Yj ats pl c F i ws=Yj ats' pl' c F i ws
 | _,[],_=>rfl
 | i,w::l,h=>by
   unfold Yj
   cases hd:dec w with
   | none=>rfl
   | some x =>
     have hn:=h w (by simp) x hd
     simp only []
     rw [QoA (ats:=ats) (ats':=ats') (pl:=pl) (pl':=pl') hn,QjF (ats:=ats) (ats':=ats') (pl:=pl) (pl':=pl') fun w hw=>h w (List.mem_cons_of_mem _ hw)]
structure QHk (x:In):Prop where
 rd:0≤x.rd
 rs1:0≤x.rs1
 rs2:0≤x.rs2
theorem Qyh (hl:∀ x∈l,QHk x):∀ w∈encs l,∃ x∈l,dec w=some x∧enc T x=(w,0):=fun w hw=>by
 unfold encs at hw
 obtain ⟨x,hx,he⟩:=List.mem_filterMap.1 hw
 split at he
 ·rename_i h0
  injection he with he
  have:=hl x hx
  have he':enc T x=(w,0):=by rw [← he,← h0]
  exact ⟨x,hx,(QeJ he' this.rd this.rs1 this.rs2).2.2,he'⟩
 ·cases he
theorem Qrq (h:∀ x∈l,(enc T x).2=0):encs l=l.map fun x=>(enc T x).1:=by
 induction l with
 | nil=>rfl
 | cons x l ih =>
   unfold encs at ih ⊢
   rw [List.filterMap_cons,if_pos (h x (by simp)),List.map_cons,ih fun y hy=>h y (List.mem_cons_of_mem _ hy)]
theorem Qqg (hl:∀ x∈l,QHk x) (h:∀ x∈l,(enc T x).2=0):codeOf (encs l)=l:=by
 rw [Qrq h]
 unfold codeOf
 rw [List.map_map]
 conv=>rhs; rw [← List.map_id l]
 refine List.map_congr_left fun x hx=>?_
 have hk:=hl x hx
 have he:enc T x=((enc T x).1,0):=by rw [← h x hx]
 have:=(QeJ he hk.rd hk.rs1 hk.rs2).2.2
 show ((first (enc T x).1 0 T).getD zeroI)=x
 rw [this]; rfl
theorem Qrj (l:List In) (d:Int):ZR [l] d=⟨d,[(nameAt 0,0)],encs l⟩:=by simp [ZR,Qln]
theorem Qx0 (a l:List In) (d:Int):ZR [a,l] d=⟨d,[(nameAt 0,0),(nameAt 1,4 * (encs a).length)],encs a++encs l⟩:=by simp [ZR,Qln]
theorem Qlt (l:List In):(encs l).length≤l.length:=List.length_filterMap_le _ _
theorem Qu5 {nm:List UInt8} {ws:List Int}:words ⟨d,[(nm,0)],ws⟩ 0=ws:=by
 unfold words from_ to_ ats
 simp only [List.map_cons,List.map_nil,List.getD_cons_zero,lC,lN]
 rw [if_neg (by omega),Int.tdiv_eq_ediv_of_nonneg (by omega),Int.tdiv_eq_ediv_of_nonneg (by omega)]
 have:((4 * (ws.length:Int)) / 4).toNat=ws.length:=by omega
 rw [this]
 simp
variable {n0 n1:List UInt8}
theorem QrK:words ⟨d,[(n0,0),(n1,4 * a.length)],a++b⟩ 0=a:=by
 unfold words from_ to_ ats
 simp only [List.map_cons,List.map_nil,List.getD_cons_zero,lC,lN,List.getD_cons_succ]
 rw [if_pos (by omega),Int.tdiv_eq_ediv_of_nonneg (by omega),Int.tdiv_eq_ediv_of_nonneg (by omega)]
 have:((4 * (a.length:Int)) / 4).toNat=a.length:=by omega
 rw [this]
 simp
theorem QrJ:words ⟨d,[(n0,0),(n1,4 * a.length)],a++b⟩ 1=b:=by
 unfold words from_ to_ ats
 simp only [List.map_cons,List.map_nil,List.getD_cons_zero,lC,lN,List.getD_cons_succ]
 rw [if_neg (by omega),Int.tdiv_eq_ediv_of_nonneg (by omega),Int.tdiv_eq_ediv_of_nonneg (by omega)]
 have e1:((4 * (a.length:Int)) / 4).toNat=a.length:=by omega
 have e2:((4 * ((a++b).length:Int)) / 4).toNat=a.length+b.length:=by rw [lA]; omega
 rw [e1,e2]
 simp
theorem moved {a:List In} (hl:∀ x∈l,QHk x) (he:∀ x∈l,(enc T x).2=0∧Qoo x) (h0:0<l.length) (h1:l.length≤60) (ha:a.length≤60) :
 match ofS (ZR [l] 0),ofS (ZR [a,l] 0) with
 | .inr _,.inr _=>True
 | .inr _,.inl _=>False
 | .inl r,.inr (n,_,e)=>r.length=1∧(n=0∨e=2)
 | .inl r,.inl q=>∃ f g h:Fn,r=[f]∧q=[g,h]∧h={ f with name:=h.name,pl:=4 * g.code.length }∧f.code=l:=by
 have hw:∀ w∈encs l,∀ x,dec w=some x→Qoo x:=fun w hw x hx=>by
  obtain ⟨y,hy,h1,_⟩:=Qyh hl w hw
  rw [hx] at h1; injection h1 with h1; subst h1
  exact (he x hy).2
 have hcode:=Qqg hl fun x hx=>(he x hx).1
 have hlen:(encs l).length=l.length:=by rw [Qrq fun x hx=>(he x hx).1]; simp
 have hle:=Qlt a
 have hlc:(codeOf (encs a)).length=(encs a).length:=by simp [codeOf]
 rw [Qrj,Qx0]
 have hr1:right ⟨0,[(nameAt 0,0)],encs l⟩=true:=by
  have e1:(decide (1≤(encs l).length))=true:=by simp; omega
  have e2:(decide ((encs l).length≤262144))=true:=by simp; omega
  have e3:(decide ((0:Int)<4 * ((encs l).length:Int)))=true:=by simp; omega
  simp only [right,Qd6,Qes,e1,e2,e3,List.map_cons,List.map_nil,lC,lN]
  rfl
 unfold ofS
 rw [if_pos hr1]
 simp only [readAll,Qu5]
 have hfree:=fun (ats ats':List Int) (pl pl':Int)=>QjF (ats:=ats) (ats':=ats') (pl:=pl) (pl':=pl') (c:=codeOf (encs l)) (F:=frameC (codeOf (encs l))) (i:=0) hw
 cases hr2:right ⟨0,[(nameAt 0,0),(nameAt 1,4 * (encs a).length)],encs a++encs l⟩ with
 | false =>
   simp only [Bool.false_eq_true,if_false]
   cases h:Qfk (ats ⟨0,[(nameAt 0,0)],encs l⟩) (nameAt 0) 0 (encs l) with
   | inl f=>simp
   | inr e=>simp
 | true =>
   simp only [if_true,QrK,QrJ,zA]
   cases hA:Qfk (ats ⟨0,[(nameAt 0,0),(nameAt 1,4 * (encs a).length)],encs a++encs l⟩) (nameAt 0) 0 (encs a) with
   | inr e =>
     simp only
     cases h:Qfk (ats ⟨0,[(nameAt 0,0)],encs l⟩) (nameAt 0) 0 (encs l) with
     | inl f=>simp
     | inr e=>simp
   | inl g =>
     have hg:=(QmB hA).1
     simp only
     unfold Qfk
     rw [hfree (ats ⟨0,[(nameAt 0,0),(nameAt 1,4 * (encs a).length)],encs a++encs l⟩) (ats ⟨0,[(nameAt 0,0)],encs l⟩) (4 * (encs a).length) 0]
     cases Yj (ats ⟨0,[(nameAt 0,0)],encs l⟩) 0 (codeOf (encs l)) (frameC (codeOf (encs l))) 0 (encs l) with
     | some e=>simp
     | none =>
       simp only
       refine ⟨Qox (nameAt 0) 0 (encs l),g,Qox (nameAt 1) (4 * (encs a).length) (encs l),rfl,rfl,?_,hcode⟩
       rw [hg]
       simp only [Qox,hlc]
theorem Good.called {ats:List Int} (h:Good ats pl c F) (hx:c[i]?=some x) (hc:x.op=3∧x.rd=1):pl+4 * i+x.imm∈ats:=by
 have:=(Qgn.1 (h.may i x hx)).2.2.1
 unfold XN at this
 have hj:¬ Yh x=true:=by
  unfold Yh Xd
  simp [hc.1,hc.2]
 rw [if_neg hj,if_pos hc.1] at this
 simp only [Bool.and_eq_true,decide_eq_true_eq] at this
 exact this.2
end Go.Rg
namespace Go.Rg
open Go Go.Am Go.Rv
structure Tr (c:List In) (F at_:Int) (l:List Int):Prop where
 way:Way c F (at_::l)
 mid:∀ x∈l.dropLast,x ∉ cuts c F
 start:∀ s,(at_::l).getLast?=some s→s=0∨s∈cuts c F
variable {F a k:Int} {c:List In}
theorem Tr.first:Tr c F 0 []:=⟨trivial,fun x hx=>by simp at hx,fun s hs=>by simp at hs; exact .inl hs.symm⟩
theorem Tr.again (h:a∈cuts c F):Tr c F a []:=⟨trivial,fun x hx=>by simp at hx,fun s hs=>by simp at hs; subst hs; exact .inr h⟩
variable {l:List Int}
theorem Tr.fresh (h0:∀ i,(0:Int) ∉ next c F i) (h:Tr c F a l) (ha:a ∉ cuts c F):a ∉ l:=by
 rcases List.eq_nil_or_concat l with rfl | ⟨m,s,rfl⟩
 ·simp
 ·rw [List.concat_eq_append] at *
  have hw:=Qw3 h0 (a::m) s h.way (fun x hx=>?_) (h.start s (by rw [← cA]; exact List.getLast?_concat))
  ·rw [cA,List.nodup_cons] at hw; exact hw.1
  ·rcases List.mem_cons.1 hx with rfl | hx
   ·exact ha
   ·exact h.mid x (by simpa using hx)
theorem Tr.go (h:Tr c F a l) (ha:a ∉ cuts c F∨l=[]) (hk:k∈next c F a):Tr c F k (a::l):=by
 refine ⟨⟨hk,h.way⟩,fun x hx=>?_,fun s hs=>h.start s (by simpa using hs)⟩
 rcases ha with ha | rfl
 ·cases l with
  | nil=>simp at hx
  | cons b l =>
    rw [List.dropLast_cons_cons] at hx
    rcases List.mem_cons.1 hx with rfl | hx
    ·exact ha
    ·exact h.mid x hx
 ·simp at hx
set_option maxRecDepth 100000
theorem count_one {k:Int}:∀ {l:List Int},l.Nodup→k∈l→l.count k=1
 | [],_,h=>absurd h (by simp)
 | a::l,hn,h=>by
   obtain ⟨h1,h2⟩:=List.nodup_cons.1 hn
   rw [List.count_cons]
   by_cases e:a=k
   ·subst e
    rw [List.count_eq_zero.2 h1]; simp
   ·have hk:k∈l:=by simpa [Ne.symm e] using h
    rw [count_one h2 hk]; simp [e]
theorem QkU (c:List In) (F:Int) (n:Nat) (k:Int):XB c F (n+1) k=XB c F n k+(next c F n).count k:=by
 unfold XB
 rw [List.range_succ,List.countP_append]
 congr 1
 rw [List.countP_cons,List.countP_nil,zA]
 have hn:=QmC c F n
 by_cases h:k∈next c F n
 ·simp only [h,decide_true,if_true]
  exact (count_one hn h).symm
 ·simp only [h,decide_false,Bool.false_eq_true,if_false]
  exact (List.count_eq_zero.2 h).symm
theorem Qn8 (c:List In) (F:Int) (n:Nat) (k:Int):XB c F n k≤n:=by
 unfold XB
 have:=List.countP_le_length (p:=fun i:Nat=>decide (k∈next c F (i:Int))) (l:=List.range n)
 simpa using this
theorem QiG {n:Nat} (h:0<XB c F n k):0≤k∧k<c.length:=by
 unfold XB at h
 obtain ⟨i,_,hi⟩:=List.countP_pos_iff.1 h
 exact Qnd (by simpa using hi)
theorem QvR:∀ (l m:List Int),l.Pairwise (·<·)→m.Pairwise (·<·)→(∀ x,x∈l↔x∈m)→l=m
 | [],[],_,_,_=>rfl
 | [],b::m,_,_,h=>absurd ((h b).2 (by simp)) (by simp)
 | a::l,[],_,_,h=>absurd ((h a).1 (by simp)) (by simp)
 | a::l,b::m,hl,hm,h=>by
   obtain ⟨ha,hl'⟩:=List.pairwise_cons.1 hl
   obtain ⟨hb,hm'⟩:=List.pairwise_cons.1 hm
   have hab:a=b:=by
    have h1:=(h a).1 (by simp)
    have h2:=(h b).2 (by simp)
    simp only [List.mem_cons] at h1 h2
    rcases h1 with h1 | h1
    ·exact h1
    ·rcases h2 with h2 | h2
     ·exact h2.symm
     ·have:=hb a h1; have:=ha b h2; omega
   subst hab
   rw [QvR l m hl' hm' fun x=>?_]
   constructor
   ·intro hx
    have:=(h x).1 (by simp [hx])
    simp only [List.mem_cons] at this
    rcases this with rfl | h1
    ·have:=ha x hx; omega
    ·exact h1
   ·intro hx
    have:=(h x).2 (by simp [hx])
    simp only [List.mem_cons] at this
    rcases this with rfl | h1
    ·have:=hb x hx; omega
    ·exact h1
theorem QGK (c:List In) (F:Int):(cuts c F).Pairwise (·<·):=by
 unfold cuts
 rw [List.pairwise_map]
 exact (List.pairwise_lt_range.filter _).imp fun h=>by omega
theorem QFO (h:l.Nodup):(l.mergeSort fun x y=>decide (x≤y)).Pairwise (·<·):=by
 have h1:=List.pairwise_mergeSort (le:=fun x y:Int=>decide (x≤y)) (fun a b c h1 h2=>by simp at *; omega) (fun a b=>by simp; omega) l
 have h2:(l.mergeSort fun x y=>decide (x≤y)).Nodup:=(List.mergeSort_perm _ _).nodup_iff.2 h
 exact (h1.and h2).imp fun ⟨h1,h2⟩=>by
  simp at h1
  omega
theorem QGJ {S:List Int} {seen:List Nat} (hS:S.Nodup) (hm:∀ k,k∈S↔0<XB c F c.length k) (hn:seen.Nodup) (hlt:∀ i∈seen,i<S.length) (hall:∀ i,i<S.length→i∈seen) :
 (((seen.map fun i=>S.getD i 0).filter fun k=>decide (1<XB c F c.length k)).mergeSort fun x y=>decide (x≤y))=cuts c F:=by
 have hmap:(seen.map fun i=>S.getD i 0).Nodup:=by
  unfold List.Nodup
  rw [List.pairwise_map]
  refine hn.imp_of_mem fun {i j} hi hj hne=>?_
  intro e
  have h1:=hlt i hi
  have h2:=hlt j hj
  rw [List.getD_eq_getElem?_getD,List.getD_eq_getElem?_getD,List.getElem?_eq_getElem h1,List.getElem?_eq_getElem h2] at e
  exact hne ((List.getElem_inj hS).1 e)
 refine QvR _ _ (QFO (hmap.filter _)) (QGK c F) fun x=>?_
 rw [List.mem_mergeSort,List.mem_filter,Qq9,List.mem_map]
 constructor
 ·rintro ⟨_,h2⟩
  have h2:1<XB c F c.length x:=by simpa using h2
  exact ⟨(QiG (by omega:0<XB c F c.length x)).1,(QiG (by omega:0<XB c F c.length x)).2,h2⟩
 ·rintro ⟨_,_,h2⟩
  obtain ⟨i,hi,e⟩:=List.mem_iff_getElem.1 ((hm x).2 (by omega))
  refine ⟨⟨i,hall i hi,?_⟩,by simpa using h2⟩
  rw [List.getD_eq_getElem?_getD,List.getElem?_eq_getElem hi,e]; rfl
end Go.Rg
