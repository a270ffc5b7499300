/- Ours. -/
import Derived.Test.YtbdhjeojcpgblaaGreatDoorJ10
import Derived.Test.YtbdhjeojcpgblaaGreatDoorShS
import Derived.Test.YtbdhjeojcpgblaaGreatDoorShC
import Derived.Lib.SlicesCompact
import Derived.Test.YtbdhjeojcpgblaaGreatDoorJ11
import Derived.Test.YtbdhjeojcpgblaaGreatDoorJ12
import Derived.Test.YtbdhjeojcpgblaaGreatDoorY
open Nat renaming reduceEqDiff → rq, reduceAdd → rA, reduceLeDiff → rL, reduceLT → rT, zero_add → zA, le_refl → lR, zero_le → zL, add_zero → aZ
open List renaming length_cons → lC, length_nil → lN, take_succ_cons → tSq, length_append → lA, nil_append → nA, cons_append → cA, append_assoc → aA, take_nil → tN, take_zero → tZ, length_map → lM
open Bool renaming not_false → nF, not_true → nT
namespace Go.Proofs.YtbdhjeojcpgblaaGreatDoor
open Go Go.Am Go.Sort Go.Lib
set_option maxRecDepth 100000
variable {P:Program} {G:Nat→Option V} {k base t:Nat}
theorem _root_.List.set_getElem?_self {α:Type} {l:List α} {x:α} (h:l[k]?=some x):l.set k x=l:=by
 obtain ⟨h1,h2⟩:=List.getElem?_eq_some_iff.1 h
 rw [← h2,List.set_getElem_self]
def Qae:List Int→List Int
 | []=>[]
 | [a]=>[a]
 | a::b::l=>if a=b then Qae (b::l) else a::Qae (b::l)
theorem compactUpTo_succ (d:Array Int) (m:Nat):compactUpTo d (m+1)=compactUpTo d m++if keeps d m then [d[m]!] else []:=by
 unfold compactUpTo
 rw [List.range_succ,List.filter_append,List.map_append]
 congr 1
 simp only [List.filter_cons,List.filter_nil]
 split <;> rfl
theorem Qpi (x:Int):∀ (l:List Int),Qae (l++[x])=Qae l++if l.getLast?=some x then [] else [x]
 | []=>rfl
 | [a]=>by
   simp only [cA,nA,Qae,List.getLast?_singleton,Option.some.injEq]
   split
   ·rename_i h; simp [h]
   ·rename_i h; simp []
 | a::b::l=>by
   have ih:=Qpi x (b::l)
   simp only [cA] at ih ⊢
   have hlast:(a::b::l).getLast?=(b::l).getLast?:=by simp
   rw [hlast]
   conv=>lhs; unfold Qae
   conv=>rhs; unfold Qae
   split
   ·exact ih
   ·rw [ih]; rfl
theorem QkY (zs:List Int):∀ m,m≤zs.length→compactUpTo zs.toArray m=Qae (zs.take m)
 | 0,_=>rfl
 | m+1,h=>by
   have hm:m<zs.length:=h
   rw [compactUpTo_succ,QkY zs m (by omega),QdT (List.getElem?_eq_getElem hm),Qpi]
   congr 1
   have e:zs.toArray[m]! = zs[m]:=by rw [getElem!_pos _ _ (by simpa using hm)]; simp
   unfold keeps
   by_cases h0:m=0
   ·subst h0; simp [e]
   ·have hp:m - 1<zs.length:=by omega
    have e2:zs.toArray[m - 1]! = zs[m - 1]:=by rw [getElem!_pos _ _ (by simpa using hp)]; simp
    have e3:(zs.take m).getLast?=some zs[m - 1]:=by
     rw [List.getLast?_eq_getElem?,List.length_take,Nat.min_eq_left (by omega),List.getElem?_take,if_pos (by omega),List.getElem?_eq_getElem hp]
    rw [e3,e,e2]
    simp only [h0,false_or,ne_eq,Option.some.injEq]
    by_cases hh:zs[m]=zs[m - 1]
    ·simp [hh]
    ·have hh':¬ zs[m - 1]=zs[m]:=fun x=>hh x.symm
     simp [hh,hh']
theorem Qx8 (zs:List Int):compact zs=Qae zs:=by
 unfold compact
 rw [QkY zs _ (lR _),List.take_length]
theorem Qmi:∀ zs:List Int,(Qae zs).length≤zs.length
 | []=>lR _
 | [a]=>lR _
 | a::b::l=>by
   have:=Qmi (b::l)
   unfold Qae
   split
   ·simp at this ⊢; omega
   ·simp at this ⊢; omega
variable {zs:List Int} {o:List (Option Ob)}
theorem QDz {G:Nat→Option V} {v T:Nat} (hk:base≤k) (ho:o[k]?=some (some (.arr v T (ints zs)))) (hl:zs.length≤1000000) :
 C Tryz.prog G base Qal [.sl k v 0 1 zs.length none] ⟨t,o⟩ fun r σ'=>r=.sl k v 0 1 (Qae zs).length none∧∃ cells,Qb cells=true∧σ'=⟨t,o.set k (some (.arr v T (ints (Qae zs)++cells)))⟩:=by
 by_cases hz:zs=[]
 ·subst hz
  refine (C_cut0 (fun p cap w=>Tryz.slices_Compact_int_empty p cap w)).conseq fun r σ' ⟨h1,h2⟩=>⟨h1,[],rfl,?_⟩
  rw [h2,show ints (Qae [])++[]=ints [] from rfl,List.set_getElem?_self ho]
 ·refine (C_cut (zs':=Qae zs++List.replicate (zs.length - (Qae zs).length) 0) (m:=(Qae zs).length) hk ho hz (by have:=Qmi zs; simp; omega) (Qmi zs) fun blk off cap w hH hcap=>?_).conseq fun r σ' ⟨h1,h2⟩=>⟨h1,ints (List.replicate (zs.length - (Qae zs).length) 0),Qir _,?_⟩
  ·have h:=Tryz.slices_Compact_int blk off cap zs w hH (by omega) hcap
   rw [Qx8] at h
   exact h
  ·rw [h2]; simp [ints]
structure QPG (P:Program) (f:FuncId):Prop where
 some:∀ (blk off cap:Nat) (zs:List Int) (w:World),Go.Sort.Holds (Value.int .i64) w blk off zs.toArray→blk<w.heap.size→zs.length<4611686018427387904 →
  Calls P f #[.slice (some ⟨blk,off,none⟩) zs.length cap] w fun e w'=>e=.returned (.tuple #[])∧∃ n os,w'=Go.Sort.grow (Go.Sort.putRow (Value.int .i64) (Go.Sort.ahead w n) blk off (zs.mergeSort fun x y=>decide (x≤y)).toArray) os
 none:∀ (p:Option Addr) (cap:Nat) (w:World),Calls P f #[.slice p 0 cap] w fun e w'=>e=.returned (.tuple #[])∧w'=w
theorem QwX {f:FuncId} (S:QPG P f) {v T:Nat} {n:Nat} {lim:Option Nat} (hk:base≤k) (ho:o[k]?=some (some (.arr v T (zs.map (V.int .i64))))) (hn:n=zs.length) (hl:zs.length<4611686018427387904) :
 C P G base f [.sl k v 0 1 n lim] ⟨t,o⟩ fun r σ'=>r=.tup []∧σ'=⟨t,o.set k (some (.arr v T ((zs.mergeSort fun x y=>decide (x≤y)).map (V.int .i64))))⟩:=by
 subst hn
 cases zs with
 | nil =>
   refine (QD2 (fun p cap w=>S.none p cap w)).conseq fun r σ' ⟨h1,h2⟩=>⟨h1,?_⟩
   rw [h2]
   congr 1
   have hk':=(List.getElem?_eq_some_iff.1 ho).1
   apply List.ext_getElem?
   intro m
   by_cases hm:m=k
   ·subst hm; rw [ho]; simp [hk']
   ·simp [List.getElem?_set_ne (Ne.symm hm)]
 | cons z zs=>exact QQw hk ho (by simp) (by simp) fun blk off cap w hH hb=>S.some blk off cap _ w hH hb hl
theorem sortI {P:Program} (hp:P=Tryz.prog):QPG P Qbu:=by
 subst hp
 exact ⟨fun blk off cap zs w hH hb hl=>Tryz.slices_Sort_int blk off cap zs w hH hb hl,fun p cap w=>Tryz.slices_Sort_int_none p cap w⟩
end Go.Proofs.YtbdhjeojcpgblaaGreatDoor
namespace Go.Proofs.YtbdhjeojcpgblaaGreatDoor
open Go Go.Am Go.Rv Go.Rg
set_option maxRecDepth 100000
variable {P:Program} {G:Nat→Option V}
section
attribute [local go_sem] cA lM nA aZ lR zA zL V.cells and_true decide_false decide_true false_implies ge_iff_le inC Zh QOf QOe YJ QNO QNN QaC QNQ QNP true_and true_implies
def Y9 (c:List In):V:=.lst 5 (c.map fun x=>V.agg (inC x)) false
def Xv (l:List Int):V:=.lst 1 (ints l) false
def fnC (nm:List UInt8) (pl:Int) (c:List In) (F:Int) (K:List Int):List V:=[.str nm,.int .i64 pl,Y9 c,.int .i64 F,Xv K]
theorem eqIn (x y:In):((x.op==y.op)&&((x.rd==y.rd)&&((x.rs1==y.rs1)&&((x.rs2==y.rs2)&&((x.imm==y.imm)&&true)))))=decide (x=y):=by
 obtain ⟨a,b,c,d,e⟩:=x
 obtain ⟨a',b',c',d',e'⟩:=y
 simp only [In.mk.injEq]
 rw [Bool.eq_iff_iff]
 simp
theorem QaI {c:List In} {i:Nat} {x:In} (h:c[i]?=some x):(c.map fun x=>V.agg (inC x)).getD i V.any=.agg (inC x):=by simp [List.getD_eq_getElem?_getD,h]
theorem Qyi (hT:Qf P tab) (nm:List UInt8) (pl F:Int) (c:List In) (K:List Int) (i:Int) (x:In) (hl:c.length≤1000000):Am.Pure P G Qd7 [.agg (fnC nm pl c F K),.int .i64 i,.agg (inC x)] fun v=>v=.bool (isI c i x):=by
 intro t
 refine Qi 0 (zL _) (Qk hT Xx (by simp [Zh]) (Qg 12 ?_))
 by_cases h0:0≤i
 ·have h0':decide (0≤i)=true:=decide_eq_true h0
  obtain ⟨k,rfl⟩:∃ k:Nat,i=k:=⟨i.toNat,by omega⟩
  by_cases h1:k<c.length
  ·have h1':decide ((k:Int)<(c.length:Int))=true:=decide_eq_true (by omega)
   have h1'':(k:Int)<(c.length:Int):=by omega
   obtain ⟨y,hy⟩:∃ y,c[k]?=some y:=⟨_,List.getElem?_eq_getElem h1⟩
   have hD:=QaI hy
   simp only [inC] at hD
   have hr:isI c k x=decide (y=x):=by unfold isI; rw [QpO,hy]; simp
   rw [hr,← eqIn]
   simp -implicitDefEqProofs (disch:=omega) only [go_sem,↓reduceIte,reduceCtorEq,rA,rq,fnC,Y9,Xv,h0]
   iterate 9 (try (refine Qa 4 ?_; simp -implicitDefEqProofs (disch:=omega) only [go_sem,↓reduceIte,reduceCtorEq,rA,rq,rL,h0,h1'',hD,h1]))
  ·have h1':decide ((k:Int)<(c.length:Int))=false:=decide_eq_false (by omega)
   have h1'':¬ (k:Int)<(c.length:Int):=by omega
   have hr:isI c k x=false:=by unfold isI; rw [QpO,List.getElem?_eq_none (by omega)]; simp
   rw [hr]
   simp -implicitDefEqProofs (disch:=omega) only [go_sem,↓reduceIte,reduceCtorEq,rA,rq,fnC,Y9,Xv,h0]
   iterate 9 (try (refine Qa 4 ?_; simp -implicitDefEqProofs (disch:=omega) only [go_sem,↓reduceIte,reduceCtorEq,rA,rq,rL,h1'']))
 ·have h0':decide (0≤i)=false:=decide_eq_false h0
  have hr:isI c i x=false:=by unfold isI nth; rw [if_pos (by omega)]; simp
  rw [hr]
  simp -implicitDefEqProofs (disch:=omega) only [go_sem,↓reduceIte,reduceCtorEq,rA,rq,fnC,Y9,Xv,h0]
  iterate 9 (try (refine Qa 4 ?_; simp -implicitDefEqProofs (disch:=omega) only [go_sem,↓reduceIte,reduceCtorEq,rA,rq]))
theorem Qpk (hT:Qf P tab) (x:In):Am.Pure P G Qdq [.agg (inC x)] fun v=>v=.bool (Z6 x):=by
 intro t
 refine Qi 0 (zL _) (Qk hT Y5 (by simp [YJ]) (Qg 12 ?_))
 unfold Z6
 by_cases h0:5≤x.op
 ·have h0':decide (5≤x.op)=true:=decide_eq_true h0
  refine yf ?_
  iterate 4 (try (refine Qa 4 ?_; simp -implicitDefEqProofs (disch:=omega) only [go_sem,↓reduceIte,reduceCtorEq,rA,rq,rL]))
  try simp
 ·have h0':decide (5≤x.op)=false:=decide_eq_false h0
  refine yf ?_
  iterate 4 (try (refine Qa 4 ?_; simp -implicitDefEqProofs (disch:=omega) only [go_sem,↓reduceIte,reduceCtorEq,rq]))
  try simp
theorem Qvu (hT:Qf P tab) (x:In):Am.Pure P G Qga [.agg (inC x)] fun v=>v=.bool (Qbw x):=by
 intro t
 have hB:=Qpk (P:=P) (G:=G) hT x
 unfold Qbw
 simp only [inC] at hB
 refine Qi 0 (zL _) (Qk hT Ys (by simp [QaC]) (Qg 12 ?_))
 cases hb:Z6 x with
 | true =>
   rw [hb] at hB
   refine ya ?_
   refine Qj hT Y5 hB rfl 4 ?_
   refine ya ?_
   iterate 6 (try (refine Qa 4 ?_; simp -implicitDefEqProofs (disch:=omega) only [go_sem,↓reduceIte,reduceCtorEq,rq]))
   try simp
 | false =>
   rw [hb] at hB
   refine ya ?_
   refine Qj hT Y5 hB rfl 4 ?_
   refine ya ?_
   by_cases h3:x.op=3
   ·have h3':(x.op==3)=true:=by simp [h3]
    iterate 6 (try (refine Qa 4 ?_; simp -implicitDefEqProofs (disch:=omega) only [go_sem,↓reduceIte,reduceCtorEq,rA,rq,rL,h3']))
    try simp [h3,ibeq]
   ·have h3':(x.op==3)=false:=by simp [h3]
    iterate 6 (try (refine Qa 4 ?_; simp -implicitDefEqProofs (disch:=omega) only [go_sem,↓reduceIte,reduceCtorEq,rA,rq,h3']))
    try simp [h3]
end
section
attribute [local go_sem] nF lC lN tZ lR zA zL kG_5 kG_7 kGs_7 QaG zql_0 zql_1 zql_2
def sy (n:Int):Nd:=⟨2,n,0,0,0,0⟩
def co (n:Int):Nd:=⟨1,n,0,0,0,0⟩
variable {n:Int}
theorem sy_may (h:0≤n) (k:Nat):(sy n).may k=true:=by simp [sy,Nd.may,h]
theorem co_may (n:Int) (k:Nat):(co n).may k=true:=by simp [co,Nd.may]
def Hs (L:List Nd) (d:Nd):Prop:=(idx d L).isSome
def Qnm (L:List Nd) (d:Nd):Int:=(((idx d L).getD 0:Nat):Int)
def Ext (L L':List Nd):Prop:=∃ M,L'=L++M∧∀ d∈M,(d=co d.n∨d=sy d.n)∧i64 d.n
theorem Ext.refl (L:List Nd):Ext L L:=⟨[],by simp,by simp⟩
variable {L L':List Nd}
theorem Ext.trans {L'':List Nd} (h:Ext L L') (k:Ext L' L''):Ext L L'':=by
 obtain ⟨M,rfl,h1⟩:=h; obtain ⟨N,rfl,h2⟩:=k; exact ⟨M++N,by simp,fun d hd=>(List.mem_append.1 hd).elim (h1 d) (h2 d)⟩
theorem QuU {d:Nd} {M:List Nd}:∀ {L:List Nd} {i:Nat},idx d L=some i→idx d (L++M)=some i
 | [],_,h=>by simp [idx] at h
 | e::L,i,h=>by
   simp only [idx,cA] at h ⊢
   split
   ·rename_i he; rw [if_pos he] at h; exact h
   ·rename_i he
    rw [if_neg he] at h
    cases hi:idx d L with
    | none=>rw [hi] at h; simp at h
    | some j=>rw [hi] at h; rw [QuU hi]; exact h
variable {d:Nd}
theorem Hs.ext (h:Hs L d) (k:Ext L L'):Hs L' d:=by
 obtain ⟨M,rfl,_⟩:=k
 obtain ⟨i,hi⟩:=Option.isSome_iff_exists.1 h
 unfold Hs; rw [QuU hi]; rfl
theorem QwG (h:Hs L d) (k:Ext L L'):Qnm L' d=Qnm L d:=by
 obtain ⟨M,rfl,_⟩:=k
 obtain ⟨i,hi⟩:=Option.isSome_iff_exists.1 h
 unfold Qnm; rw [QuU hi,hi]
theorem QPX {d:Nd}:∀ {L:List Nd} {i:Nat},idx d L=some i→L[i]?=some d
 | [],_,h=>by simp [idx] at h
 | e::L,i,h=>by
   simp only [idx] at h
   split at h
   ·rename_i he; cases h; simp [he]
   ·cases hi:idx d L with
    | none=>rw [hi] at h; simp at h
    | some j=>rw [hi] at h; simp at h; subst h; simpa using QPX hi
theorem QCL (h:Hs L d):0≤Qnm L d∧L[(Qnm L d).toNat]?=some d:=by
 obtain ⟨i,hi⟩:=Option.isSome_iff_exists.1 h
 unfold Qnm; rw [hi]
 exact ⟨by simp,by simpa using QPX hi⟩
theorem QCJ {d:Nd}:∀ {L:List Nd},idx d L=none→idx d (L++[d])=some L.length
 | [],_=>by simp [idx]
 | e::L,h=>by
   simp only [idx,cA] at h ⊢
   split at h
   ·cases h
   ·rename_i he
    rw [if_neg he]
    cases hi:idx d L with
    | none=>rw [QCJ hi]; rfl
    | some j=>rw [hi] at h; simp at h
theorem QDU (hm:d.may L.length=true) (hp:(d=co d.n∨d=sy d.n)∧i64 d.n):Ext L (addN L d).2∧Hs (addN L d).2 d∧(addN L d).1=Qnm (addN L d).2 d∧(addN L d).2.length≤L.length+1:=by
 unfold addN
 rw [if_pos hm]
 cases hi:idx d L with
 | some i=>exact ⟨Ext.refl L,by unfold Hs; simp only [hi]; rfl,by simp [Qnm,hi],by simp⟩
 | none =>
   have:=QCJ hi
   exact ⟨⟨[d],rfl,fun e he=>by rw [List.mem_singleton] at he; subst he; exact hp⟩,by unfold Hs; simp only [this]; rfl,by simp [Qnm,this],by simp⟩
def QTx (fmt:Int→List UInt8) (L:List Nd) (d:Nd) (v0 v1 t:Nat) (ex:List (Option Ob)):V→H→Prop:=fun v σ=>∃ L' t' v2' v3' v4',L'=(addN L d).2∧Ext L L'∧Hs L' d∧L'.length≤L.length+1∧t≤t'∧v=.int .i64 (Qnm L' d)∧σ=⟨t',kG fmt v0 v1 v2' v3' v4' L'++ex⟩
variable {v0 v1 v2 v3 v4 t:Nat}
theorem QFd (hT:Qf P tab) (F:Fmt P G) {ex:List (Option Ob)} (hn:i64 n) (hL:L.length≤1000000) :
 C P G 0 Qge [.ptr 1 v0 0,.int .i64 n] ⟨t,kG F.fmt v0 v1 v2 v3 v4 L++ex⟩ (QTx F.fmt L (co n) v0 v1 t ex) :=
 (Qnk hT F hn hL).conseq fun v σ hv=>by
  obtain ⟨rfl,t',v2',v3',v4',ht,rfl⟩:=hv
  obtain ⟨h1,h2,h3,h4⟩:=QDU (L:=L) (co_may n L.length) ⟨.inl rfl,hn⟩
  exact ⟨_,t',v2',v3',v4',rfl,h1,h2,h4,ht,by rw [← h3]; rfl,rfl⟩
theorem kb_Sym (hT:Qf P tab) (F:Fmt P G) {ex:List (Option Ob)} (hn:i64 n) (h0:0≤n) (hL:L.length≤1000000) :
 C P G 0 QjG [.ptr 1 v0 0,.int .i64 n] ⟨t,kG F.fmt v0 v1 v2 v3 v4 L++ex⟩ (QTx F.fmt L (sy n) v0 v1 t ex) :=
 (k_Sym hT F hn hL).conseq fun v σ hv=>by
  obtain ⟨rfl,t',v2',v3',v4',ht,rfl⟩:=hv
  obtain ⟨h1,h2,h3,h4⟩:=QDU (L:=L) (sy_may h0 L.length) ⟨.inr rfl,hn⟩
  exact ⟨_,t',v2',v3',v4',rfl,h1,h2,h4,ht,by rw [← h3]; rfl,rfl⟩
theorem QCx (hT:Qf P tab) (F:Fmt P G) {wg wn:Nat} {X:Option Ob} {ex:List (Option Ob)} {b:Int} (h0:0≤b) (hb:b<9223372036854775807) (hL:L.length≤1000000) :
 C P G 0 Qgg [.ptr 7 wn 0,.ptr 5 wg 0] ⟨t,kG F.fmt v0 v1 v2 v3 v4 L++(some (.arr wg 34 [.ptr 1 v0 0])::X::some (.arr wn 2 [.int .i64 b])::ex)⟩ (QTx F.fmt L (sy b) v0 v1 t (some (.arr wg 34 [.ptr 1 v0 0])::X::some (.arr wn 2 [.int .i64 (b+1)])::ex)):=by
 have e1:IntKind.i64.wrap (b+1)=b+1:=Yz (by omega)
 have e2:IntKind.i64.wrap (b+1 - 1)=b:=by rw [Yz (by omega)]; omega
 refine Qk hT QcA (by simp [QaG]) (Qg 1000 ?_)
 simp -implicitDefEqProofs (disch:=omega) only [go_sem,↓reduceIte,reduceCtorEq,rq,e1,e2]
 refine call hT QoM (kb_Sym hT F (ex:=some (.arr wg 34 [.ptr 1 v0 0])::X::some (.arr wn 2 [.int .i64 (b+1)])::ex) (n:=b) (by unfold i64; omega) h0 hL) 1000 fun v σ hv=>?_
 obtain ⟨L',t',v2',v3',v4',h0',h1,h2,h3,ht,rfl,rfl⟩:=hv
 refine ya ?_
 exact ⟨L',t',v2',v3',v4',h0',h1,h2,h3,ht,rfl,rfl⟩
end
section
attribute [local go_sem] nF nT aA cA lC lN nA tSq tZ aZ lR Nat.mul_one zA zL and_true beq_self_eq_true decide_false decide_true false_implies gt_iff_lt kG_5 kG_6 kG_7 kG_8 kG_9 QiR kGs_7 kGs_8 kGs_9 Qee zq8_0 zq8_1 Qy1 Qy0 QyZ QyY QG6 QyX QyW QyV QG5 zq8_2 zq8_3 zq8_4 QQQ QQP QQO QQN QQM Qu not_false_eq_true true_and true_implies
def QrH (b:Int) (r:Nat):Nd:=if r=0 then co 0 else sy (b+(if r=1 then 0 else (r:Int) - 2))
def Ql4 (L:List Nd) (b:Int) (r:Nat):Int:=if r=2 then -1 else Qnm L (QrH b r)
def bgL (L:List Nd) (b:Int):Nat→List Nd
 | 0=>L
 | r+1=>if r=2 then bgL L b r else (addN (bgL L b r) (QrH b r)).2
def bgS (L:List Nd) (b:Int):Nat→List Nd
 | 0=>bgL L b 32
 | k+1=>(addN (bgS L b k) (sy (b+30+((k:Nat):Int)))).2
def Qeb (r:Nat):Int:=if r≤1 then 0 else if r≤3 then 1 else (r:Int) - 2
def Qfb (L:List Nd) (b:Int) (k:Nat):List V:=(List.range 32).map fun r=>.int .i64 (if r<k then Ql4 L b r else 0)
def Y7 (L:List Nd) (b:Int) (k:Nat):List V:=(List.range k).map fun i:Nat=>.int .i64 (Qnm L (sy (b+30+((i:Nat):Int))))
def AllR (L:List Nd) (b:Int) (k:Nat):Prop:=∀ r,r<k→r≠2→Hs L (QrH b r)
def AllS (L:List Nd) (b:Int) (k:Nat):Prop:=∀ i:Nat,i<k→Hs L (sy (b+30+(i:Int)))
theorem AllR.ext {L L':List Nd} {b:Int} {k:Nat} (h:AllR L b k) (e:Ext L L'):AllR L' b k:=fun r hr h2=>(h r hr h2).ext e
theorem AllS.ext {L L':List Nd} {b:Int} {k:Nat} (h:AllS L b k) (e:Ext L L'):AllS L' b k:=fun i hi=>(h i hi).ext e
variable {k v0 v1 v2 v3 v4 wg wn wx:Nat} {b:Int} {L L':List Nd}
theorem QmN (h:AllR L b k) (e:Ext L L'):Qfb L b k=Qfb L' b k:=by
 unfold Qfb
 refine List.map_congr_left fun r _=>?_
 split
 ·rename_i hr
  unfold Ql4
  split
  ·rfl
  ·rename_i h2; rw [QwG (h r hr h2) e]
 ·rfl
theorem Qxn (h:AllS L b k) (e:Ext L L'):Y7 L b k=Y7 L' b k:=by
 unfold Y7
 refine List.map_congr_left fun i hi=>?_
 rw [QwG (h i (List.mem_range.1 hi)) e]
theorem QBS (L:List Nd) (b:Int) (hk:k<32):(Qfb L b k).set k (.int .i64 (Ql4 L b k))=Qfb L b (k+1):=by
 unfold Qfb
 apply List.ext_getElem?
 intro j
 by_cases hj:j=k
 ·subst hj
  rw [List.getElem?_set_self (by simp; omega)]
  simp [hk]
 ·rw [List.getElem?_set_ne (Ne.symm hj)]
  simp only [List.getElem?_map]
  cases hr:(List.range 32)[j]? with
  | none=>rfl
  | some r =>
    have:r=j:=by have:=List.getElem?_eq_some_iff.1 hr; obtain ⟨h1,h2⟩:=this; simpa using h2.symm
    subst this
    simp only [Option.map_some]
    congr 2
    have:(r<k)↔(r<k+1):=by omega
    simp only [this]
theorem QW (L:List Nd) (b:Int) (k:Nat):(Qfb L b k).length=32:=by simp [Qfb]
theorem QgL (L:List Nd) (b:Int) (k:Nat):(Y7 L b k).length=k:=by simp [Y7]
theorem Quw (L:List Nd) (b:Int) (k:Nat):Y7 L b k++[.int .i64 (Qnm L (sy (b+30+(k:Int))))]=Y7 L b (k+1):=by simp [Y7,List.range_succ]
def stC (L:List Nd) (b:Int) (k:Nat) (sl:V) (sure:Bool):List V:=Qfb L b k++[sl,.bool sure]
theorem Quv (L:List Nd) (b:Int) (hk:k<32) (sl:V) (sure:Bool):(stC L b k sl sure).take k++V.int .i64 (Ql4 L b k)::(stC L b k sl sure).drop (k+1)=stC L b (k+1) sl sure:=by
 unfold stC
 rw [List.take_append_of_le_length (by rw [QW]; omega),List.drop_append_of_le_length (by rw [QW]; omega)]
 rw [← QBS L b hk,List.set_eq_take_append_cons_drop,if_pos (by rw [QW]; omega)]
 simp
def Qya (F params:Int):Nat:=(F / 8).toNat+(max 0 (min params 6)).toNat
variable {x0 x1 x2 x3 x4 x5:Option Ob} {fmt:Int→List UInt8}
theorem kG_10 {ex:List (Option Ob)}:(kG fmt v0 v1 v2 v3 v4 L++x0::x1::x2::x3::x4::x5::ex)[10]?=some x5:=rfl
theorem kGs_10 {ex:List (Option Ob)} {y:Option Ob}:(kG fmt v0 v1 v2 v3 v4 L++x0::x1::x2::x3::x4::x5::ex).set 10 y=kG fmt v0 v1 v2 v3 v4 L++x0::x1::x2::x3::x4::y::ex:=rfl
theorem QEb:(kG fmt v0 v1 v2 v3 v4 L).length=5:=rfl
def beH (zf:List V) (v0 wg wf wn wr wx:Nat) (zs:List V) (b:Int) (cs:List V):List (Option Ob):=[some (.arr wg 34 [.ptr 1 v0 0]),some (.arr wf 46 (zf)),some (.arr wn 2 [.int .i64 b]),some (.arr wr 40 zs),some (.arr wx 40 cs)]
abbrev beJ (F:Fmt P G) (params:Int) (zf:List V) (v0 v1 wg wf wn wr wx:Nat) (zs:List V) (L:List Nd) (b:Int) (sure:Bool):Nat→Fr→H→Prop:=fun i fr σ=>∃ L' t' v2' v3' v4',L'=bgL L b i∧Ext L L'∧L'.length≤L.length+i∧AllR L' b i∧Ql fr 2=.int .i64 params∧Ql fr 4=.ptr 5 wg 0∧Ql fr 5=.ptr 6 wf 0∧Ql fr 7=.ptr 7 wn 0∧Ql fr 8=.ptr 8 wr 0∧Ql fr 10=.fn (.func 24) [] [.ptr 7 wn 0,.ptr 5 wg 0]∧Ql fr 11=.ptr 9 wx 0∧Ql fr 20=.int .i64 ((i:Nat):Int)∧σ=⟨t',kG F.fmt v0 v1 v2' v3' v4' L'++beH zf v0 wg wf wn wr wx zs (b+Qeb i) (stC L' b i (.lst 0 [] true) sure)⟩
abbrev beE (F:Fmt P G) (params:Int) (zf:List V) (v0 v1 wg wf wn wr wx:Nat) (zs:List V) (L:List Nd) (b:Int) (sure:Bool):AE→Fr→H→Prop:=fun e fr σ=>∃ L' t' v2' v3' v4',e=.ex 0∧L'=bgL L b 32∧Ext L L'∧L'.length≤L.length+32∧AllR L' b 32∧Ql fr 2=.int .i64 params∧Ql fr 4=.ptr 5 wg 0∧Ql fr 5=.ptr 6 wf 0∧Ql fr 7=.ptr 7 wn 0∧Ql fr 8=.ptr 8 wr 0∧Ql fr 10=.fn (.func 24) [] [.ptr 7 wn 0,.ptr 5 wg 0]∧Ql fr 11=.ptr 9 wx 0∧σ=⟨t',kG F.fmt v0 v1 v2' v3' v4' L'++beH zf v0 wg wf wn wr wx zs (b+30) (stC L' b 32 (.lst 0 [] true) sure)⟩
theorem AllR.succ (h:AllR L b k) (hk:k≠2→Hs L (QrH b k)):AllR L b (k+1):=fun r hr h2=>by
 by_cases e:r=k
 ·subst e; exact hk h2
 ·exact h r (by omega) h2
theorem QhC (L:List Nd) (b:Int) (k:Nat) (sl:V) (sure:Bool):(stC L b k sl sure).length=34:=by simp [stC,QW]
variable {σ:H} {fr:Fr} {sure:Bool} {zf zs:List V}
theorem QGc (hT:Qf P tab) (F:Fmt P G) {params:Int} {wf wr:Nat} (hb:0≤b∧b≤1099511627776) (hL:L.length≤10000) {i:Nat} (hi:i<32) (hJ:beJ F params zf v0 v1 wg wf wn wr wx zs L b sure i fr σ) :
 W P G 61 0 (zg QQQ [] (.seq (zw 21 .skip (.exit 0)) (.seq (.block 1 (zg QQP [22] (zg QQO [] (.block 2 (zg QQN [30] (zw 29 (.reg QQM [31,32,33,34,35]) (zg Qy1 [37] (zw 36 (.reg Qy0 [38,39,40]) (.reg QyZ [24,25,26,27,28]))))))))) (.reg QyY [41])))) fr σ (QgX (fun fr σ=>∃ fr' σ',Shift G 61 0 fr σ fr' σ'∧beJ F params zf v0 v1 wg wf wn wr wx zs L b sure (i+1) fr' σ') (beE F params zf v0 v1 wg wf wn wr wx zs L b sure)):=by
 obtain ⟨L',t',v2',v3',v4',hB,hE,hLl,hA,f2,f4,f5,f7,f8,f10,f11,f20,rfl⟩:=hJ
 have e2:IntKind.i64.wrap ((i:Int)+1)=((i+1:Nat):Int):=Qe9 (n:=33) (by omega) (by omega)
 have hlt:((i:Nat):Int)<32:=by omega
 have hsl:=QhC L' b i (.lst 0 [] true) sure
 simp only [beH]
 have hreg:∀ L2,V.int .i64 (Ql4 L2 b i)=V.int .i64 (if i=2 then -1 else Qnm L2 (QrH b i)):=fun L2=>rfl
 by_cases h0:i=0
 ·have h0':(((i:Nat):Int)==0)=true:=by rw [beq_iff_eq]; omega
  have h0'':((i:Nat):Int)=0:=by omega
  refine Qt [(2,.int .i64 params),(4,.ptr 5 wg 0),(5,.ptr 6 wf 0),(7,.ptr 7 wn 0),(8,.ptr 8 wr 0),(10,.fn (.func 24) [] [.ptr 7 wn 0,.ptr 5 wg 0]),(11,.ptr 9 wx 0),(20,.int .i64 ((i:Nat):Int))] ⟨f2,f4,f5,f7,f8,f10,f11,f20,trivial⟩  1000 ?_
  simp -implicitDefEqProofs (disch:=omega) only [go_sem,↓reduceIte,rq,Int.reduceLT,h0'']
  refine call hT Qah (QFd hT F (n:=0) (by unfold i64; omega) (by omega)) 1000 fun v σ hv=>?_
  obtain ⟨L2,t2,w2,w3,w4,x0,x1,x2,x3,x4,rfl,rfl⟩:=hv
  have hcell:stC L' b i (.lst 0 [] true) sure=stC L2 b i (.lst 0 [] true) sure:=by unfold stC; rw [QmN hA x1]
  have hreg2:Qnm L2 (co 0)=Ql4 L2 b i:=by simp [Ql4,QrH,h0]
  have hst:=Quv L2 b hi (.lst 0 [] true) sure
  have hmd:Qeb (i+1)=Qeb i:=by simp [Qeb,h0]
  rw [hcell,hreg2]
  have hsl2:=QhC L2 b i (.lst 0 [] true) sure
  simp -implicitDefEqProofs (disch:=omega) only [go_sem,↓reduceIte,rq,rL,Int.reduceToNat,Int.reduceLE,hsl2]
  refine ⟨_,_,Shift.refl _ _ _ _,L2,t2,w2,w3,w4,by rw [bgL,if_neg (by omega),← hB,x0]; first | rfl | (rw [hrn]) | (rw [QrH,if_pos h0]),hE.trans x1,by omega,(hA.ext x1).succ fun _=>by rw [QrH,if_pos h0]; exact x2,?_⟩
  rw [hmd]
  refine ya ?_
  rw [← hst]
  subst h0
  exact ⟨rfl,rfl⟩
 have h0':(((i:Nat):Int)==0)=false:=by rw [beq_eq_false_iff_ne]; omega
 have h0'':¬ ((i:Nat):Int)=0:=by omega
 by_cases h2:i=2
 ·have h2':(((i:Nat):Int)==2)=true:=by rw [beq_iff_eq]; omega
  have h2'':((i:Nat):Int)=2:=by omega
  have hreg2:(-1:Int)=Ql4 L' b i:=by simp [Ql4,h2]
  have hst:=Quv L' b hi (.lst 0 [] true) sure
  have hmd:Qeb (i+1)=Qeb i:=by simp [Qeb,h2]
  rw [← hreg2] at hst
  refine Qt [(2,.int .i64 params),(4,.ptr 5 wg 0),(5,.ptr 6 wf 0),(7,.ptr 7 wn 0),(8,.ptr 8 wr 0),(10,.fn (.func 24) [] [.ptr 7 wn 0,.ptr 5 wg 0]),(11,.ptr 9 wx 0),(20,.int .i64 ((i:Nat):Int))] ⟨f2,f4,f5,f7,f8,f10,f11,f20,trivial⟩  1000 ?_
  simp -implicitDefEqProofs (disch:=omega) only [go_sem,↓reduceIte,rA,rq,rL,Int.reduceToNat,Int.reduceLE,Int.reduceLT,Int.reduceEq,h2'',hsl]
  refine ⟨_,_,Shift.refl _ _ _ _,L',t',v2',v3',v4',by rw [bgL,if_pos h2,hB],hE,by omega,hA.succ fun h=>absurd h2 h,?_⟩
  rw [hmd]
  refine ya ?_
  rw [← hst]
  subst h2
  exact ⟨rfl,rfl⟩
 have h2':(((i:Nat):Int)==2)=false:=by rw [beq_eq_false_iff_ne]; omega
 have h2'':¬ ((i:Nat):Int)=2:=by omega
 have hmb:0≤Qeb i∧Qeb i≤30:=by unfold Qeb; split <;> (try split) <;> omega
 have hmd:Qeb (i+1)=Qeb i+1:=by
  unfold Qeb
  repeat' split
  all_goals omega
 have hrn:QrH b i=sy (b+Qeb i):=by
  rw [QrH,if_neg h0]
  congr 2
  unfold Qeb
  repeat' split
  all_goals omega
 refine Qt [(2,.int .i64 params),(4,.ptr 5 wg 0),(5,.ptr 6 wf 0),(7,.ptr 7 wn 0),(8,.ptr 8 wr 0),(10,.fn (.func 24) [] [.ptr 7 wn 0,.ptr 5 wg 0]),(11,.ptr 9 wx 0),(20,.int .i64 ((i:Nat):Int))] ⟨f2,f4,f5,f7,f8,f10,f11,f20,trivial⟩  1000 ?_
 simp -implicitDefEqProofs (disch:=omega) only [go_sem,↓reduceIte,rq,hlt,h0',h2']
 refine Qyf hT QcA (QCx hT F (X:=some (.arr wf 46 (zf))) (ex:=[some (.arr wr 40 zs),some (.arr wx 40 (stC L' b i (.lst 0 [] true) sure))]) (b:=b+Qeb i) (by omega) (by omega) (by omega)) 1000 fun v σ hv=>?_
 obtain ⟨L2,t2,w2,w3,w4,x0,x1,x2,x3,x4,rfl,rfl⟩:=hv
 have hcell:stC L' b i (.lst 0 [] true) sure=stC L2 b i (.lst 0 [] true) sure:=by unfold stC; rw [QmN hA x1]
 have hreg2:Qnm L2 (sy (b+Qeb i))=Ql4 L2 b i:=by rw [Ql4,if_neg h2,hrn]
 have hst:=Quv L2 b hi (.lst 0 [] true) sure
 rw [hcell,hreg2]
 have hsl2:=QhC L2 b i (.lst 0 [] true) sure
 simp -implicitDefEqProofs (disch:=omega) only [go_sem,↓reduceIte,rq,rL,hsl2,hi,e2,hst]
 refine ⟨_,_,Shift.refl _ _ _ _,L2,t2,w2,w3,w4,by rw [bgL,if_neg (by omega),← hB,x0]; first | rfl | (rw [hrn]) | (rw [QrH,if_pos h0]),hE.trans x1,by omega,(hA.ext x1).succ fun _=>by rw [hrn]; exact x2,?_⟩
 rw [hmd,← Int.add_assoc]
 refine ya ?_
 rfl
abbrev slJ (F:Fmt P G) (zf:List V) (v0 v1 wg wf wn wr wx cnt:Nat) (zs:List V) (L:List Nd) (b:Int) (sure:Bool):Nat→Fr→H→Prop:=fun k fr σ=>∃ L' t' v2' v3' v4' ws,L'=bgS L b k∧Ext L L'∧L'.length≤L.length+32+k∧AllR L' b 32∧AllS L' b k∧Ql fr 7=.ptr 7 wn 0∧Ql fr 8=.ptr 8 wr 0∧Ql fr 10=.fn (.func 24) [] [.ptr 7 wn 0,.ptr 5 wg 0]∧Ql fr 11=.ptr 9 wx 0∧Ql fr 49=.int .i64 ((k:Nat):Int)∧Ql fr 48=.int .i64 ((cnt:Nat):Int)∧σ=⟨t',kG F.fmt v0 v1 v2' v3' v4' L'++(beH zf v0 wg wf wn wr wx zs (b+30+((k:Nat):Int)) (stC L' b 32 (.sl 10 ws 0 1 k none) sure)++[some (.arr ws 36 (Y7 L' b k))])⟩
abbrev slE (F:Fmt P G) (zf:List V) (v0 v1 wg wf wn wr wx cnt:Nat) (zs:List V) (L:List Nd) (b:Int) (sure:Bool):AE→Fr→H→Prop:=fun e fr σ=>∃ L' t' v2' v3' v4' ws,e=.ex 3∧L'=bgS L b cnt∧Ext L L'∧L'.length≤L.length+32+cnt∧AllR L' b 32∧AllS L' b cnt∧Ql fr 7=.ptr 7 wn 0∧Ql fr 8=.ptr 8 wr 0∧Ql fr 10=.fn (.func 24) [] [.ptr 7 wn 0,.ptr 5 wg 0]∧Ql fr 11=.ptr 9 wx 0∧σ=⟨t',kG F.fmt v0 v1 v2' v3' v4' L'++(beH zf v0 wg wf wn wr wx zs (b+30+((cnt:Nat):Int)) (stC L' b 32 (.sl 10 ws 0 1 cnt none) sure)++[some (.arr ws 36 (Y7 L' b cnt))])⟩
theorem AllS.succ (h:AllS L b k) (hk:Hs L (sy (b+30+((k:Nat):Int)))):AllS L b (k+1):=fun r hr=>by
 by_cases e:r=k
 ·subst e; exact hk
 ·exact h r (by omega)
variable {sl:V}
theorem QBD {sl':V}:(stC L b 32 sl sure).take 32++sl'::(stC L b 32 sl sure).drop 33=stC L b 32 sl' sure:=by
 unfold stC
 rw [List.take_append_of_le_length (by rw [QW]; omega),List.take_of_length_le (by rw [QW]; omega),List.drop_append,List.drop_of_length_le (by rw [QW]; omega),QW]
 simp
theorem QBE:(stC L b 32 sl sure).getD 32 V.any=sl:=by
 unfold stC
 rw [List.getD_eq_getElem?_getD,List.getElem?_append_right (by rw [QW]; omega),QW]
 rfl
theorem QEC (hT:Qf P tab) (F:Fmt P G) {wf wr cnt:Nat} (hb:0≤b∧b≤1099511627776) (hL:L.length≤10000) (hc:cnt≤2000) (hk:k<cnt) (hJ:slJ F zf v0 v1 wg wf wn wr wx cnt zs L b sure k fr σ) :
 W P G 61 0 (zg QyX [] (.seq (zw 50 .skip (.exit 3)) (.seq (.block 4 (.reg QyW [51,52,53,54,55,56,57])) (.reg QyV [58])))) fr σ (QgX (fun fr σ=>∃ fr' σ',Shift G 61 0 fr σ fr' σ'∧slJ F zf v0 v1 wg wf wn wr wx cnt zs L b sure (k+1) fr' σ') (slE F zf v0 v1 wg wf wn wr wx cnt zs L b sure)):=by
 obtain ⟨L',t',v2',v3',v4',ws,hB,hE,hLl,hA,hS,f7,f8,f10,f11,f49,f48,rfl⟩:=hJ
 have e2:IntKind.i64.wrap ((k:Int)+1)=((k+1:Nat):Int):=Qe9 (n:=3000) (by omega) (by omega)
 have hlt:((k:Nat):Int)<((cnt:Nat):Int):=by omega
 have hsl:=fun (L':List Nd) (s:V)=>QhC L' b 32 s sure
 simp only [beH,cA,nA]
 refine Qt [(7,.ptr 7 wn 0),(8,.ptr 8 wr 0),(10,.fn (.func 24) [] [.ptr 7 wn 0,.ptr 5 wg 0]),(11,.ptr 9 wx 0),(49,.int .i64 ((k:Nat):Int)),(48,.int .i64 ((cnt:Nat):Int))] ⟨f7,f8,f10,f11,f49,f48,trivial⟩  1000 ?_
 simp -implicitDefEqProofs (disch:=omega) only [go_sem,↓reduceIte,rA,rq,rL,hlt,hsl,QBE]
 with_reducible refine And.intro ?_ ?_
 all_goals (
  refine Qyf hT QcA (QCx hT F (L:=L') (X:=some (.arr wf 46 (zf))) (ex:=[some (.arr wr 40 zs),some (.arr wx 40 (stC L' b 32 (.sl 10 ws 0 1 k none) sure)),some (.arr ws 36 (Y7 L' b k))]) (b:=b+30+((k:Nat):Int)) (by omega) (by omega) (by omega)) 1000 fun v σ hv=>?_
  obtain ⟨L2,t2,w2,w3,w4,x0,x1,x2,x3,x4,rfl,rfl⟩:=hv
  have hcell:stC L' b 32 (.sl 10 ws 0 1 k none) sure=stC L2 b 32 (.sl 10 ws 0 1 k none) sure:=by unfold stC; rw [QmN hA x1]
  rw [hcell,Qxn hS x1]
  have hsz:=Quw L2 b k
  simp -implicitDefEqProofs (disch:=omega) only [go_sem,↓reduceIte,reduceCtorEq,rA,rq,rL,kG_10,kGs_10,hsl,QBE,QgL,hsz,e2,QBD]
  repeat' (with_reducible refine And.intro ?_ ?_))
 all_goals (
  refine ⟨_,_,Shift.refl _ _ _ _,L2,t2+1,w2,w3,w4,t2,by rw [bgS,← hB,x0],hE.trans x1,by omega,hA.ext x1,(hS.ext x1).succ x2,?_⟩
  rw [show b+30+((k+1:Nat):Int)=b+30+((k:Nat):Int)+1 by omega]
  refine ya ?_
  rfl)
theorem QDA (hT:Qf P tab) (F:Fmt P G) {t:Nat} (nm:List UInt8) (pl:Int) (co:List In) (Fz:Int) (K:List Int) (hm:0≤Fz∧Fz≤10000) (params next:Int) (hn:next≤1099511627776) (hL:L.length≤10000) :
 C P G 0 QkT [.ptr 1 v0 0,.agg (fnC nm pl co Fz K),.int .i64 params,.int .i64 next] ⟨t,kG F.fmt v0 v1 v2 v3 v4 L⟩ fun v σ=>∃ L' t' v2' v3' v4' ws,L'=bgS L (max 0 next) (Qya Fz params)∧Ext L L'∧L'.length≤L.length+32+Qya Fz params∧AllR L' (max 0 next) 32∧AllS L' (max 0 next) (Qya Fz params) ∧
   v=.tup [.agg (stC L' (max 0 next) 32 (.sl 10 ws 0 1 (Qya Fz params) none) (decide (Fz=0))),.int .i64 (max 0 next+30+(Qya Fz params:Nat))]∧σ=⟨t',kG F.fmt v0 v1 v2' v3' v4' L'++[none,none,none,none,none,some (.arr ws 36 (Y7 L' (max 0 next) (Qya Fz params)))]⟩:=by
 have hfr:(Fz==0)=decide (Fz=0):=by rw [Bool.eq_iff_iff,beq_iff_eq,decide_eq_true_eq]
 obtain ⟨zf,hzf⟩:∃ zf,zf=fnC nm pl co Fz K:=⟨_,rfl⟩
 have hmax:(if next > 0 then next else (0:Int))=max 0 next:=by split <;> omega
 have hmin:(if (6:Int)<params then (6:Int) else params)=min params 6:=by split <;> omega
 obtain ⟨b,hb⟩:∃ b,b=max 0 next:=⟨_,rfl⟩
 rw [← hb] at hmax ⊢
 obtain ⟨cnt,hcnt⟩:∃ cnt,cnt=Qya Fz params:=⟨_,rfl⟩
 rw [← hcnt]
 have hc20:cnt≤2000:=by rw [hcnt]; unfold Qya; omega
 have hq:IntKind.i64.wrap (Int.tdiv Fz 8)=Fz / 8:=by rw [Int.tdiv_eq_ediv_of_nonneg hm.1,Yz (by omega)]
 have hsum:IntKind.i64.wrap (Fz / 8+max 0 (min params 6))=(cnt:Int):=by rw [Yz (by omega),hcnt]; unfold Qya; omega
 refine Qw3 (Q:=fun v σ=>∃ L' t' v2' v3' v4' ws A B C D E,L'=bgS L b cnt∧Ext L L'∧L'.length≤L.length+32+cnt∧AllR L' b 32∧AllS L' b cnt∧v=.tup [.agg (stC L' b 32 (.sl 10 ws 0 1 cnt none) (decide (Fz=0))),.int .i64 (b+30+(cnt:Nat))]∧σ=⟨t',kG F.fmt v0 v1 v2' v3' v4' L'++[A,B,C,D,E,some (.arr ws 36 (Y7 L' b cnt))]⟩) ?_ fun v σ hv=>?_
 rotate_left
 ·obtain ⟨L',t',v2',v3',v4',ws,A,B,C',D,E,h0,h1,h2,h3,h4,rfl,rfl⟩:=hv
  refine ⟨kG F.fmt v0 v1 v2' v3' v4' L'++[none,none,none,none,none,some (.arr ws 36 (Y7 L' b cnt))],t',?_,lR _,zL _,L',t',v2',v3',v4',ws,h0,h1,h2,h3,h4,rfl,rfl⟩
  simp [XT,kG]
 refine Qk hT QfM (by simp [Qee]) (Qg 20 ?_)
 simp only [fnC]
 simp -implicitDefEqProofs (disch:=omega) only [go_sem,↓reduceIte,reduceCtorEq,rA,rq,QEb,hmax,Y9,Xv]
 iterate 20 (try (refine Qa 4 ?_; simp -implicitDefEqProofs (disch:=omega) only [go_sem,↓reduceIte,reduceCtorEq,rA,rq,rL,hfr]))
 obtain ⟨wg,hwg⟩:∃ w,w=t:=⟨_,rfl⟩
 obtain ⟨wf,hwf⟩:∃ w,w=t+1:=⟨_,rfl⟩
 obtain ⟨wn,hwn⟩:∃ w,w=t+2:=⟨_,rfl⟩
 obtain ⟨wr,hwr⟩:∃ w,w=t+3:=⟨_,rfl⟩
 obtain ⟨wx,hwx⟩:∃ w,w=t+4:=⟨_,rfl⟩
 obtain ⟨zs,hzs⟩:∃ zs:List V,zs=List.replicate 32 (.int .i64 0)++[.lst 0 [] true,.bool false]:=⟨_,rfl⟩
 have hst0:stC L b 0 (.lst 0 [] true) (decide (Fz=0))=List.replicate 32 (.int .i64 0)++[.lst 0 [] true,.bool (decide (Fz=0))]:=by simp [stC,Qfb,List.map_const']
 have hm0:b+Qeb 0=b:=by simp [Qeb]
 refine QpE 32 (beJ F params zf v0 v1 wg wf wn wr wx zs L b (decide (Fz=0))) (beE F params zf v0 v1 wg wf wn wr wx zs L b (decide (Fz=0))) ⟨L,t+5,v2,v3,v4,rfl,Ext.refl L,by omega,fun r hr=>by omega,?_⟩ (fun i hi fr σ hJ=>QGc hT F (by omega) hL hi hJ) (fun i hi fr σ hJ=>?_) (fun e fr σ hE=>?_)
 ·rw [hst0,hzs,hm0]
  subst hwg hwf hwn hwr hwx
  refine ⟨rfl,rfl,rfl,rfl,rfl,rfl,rfl,rfl,?_⟩
  rw [hzf]
  simp only [beH,fnC,Y9,Xv]
  rfl
 ·obtain ⟨L',t',v2',v3',v4',hB,hE,hLl,hA,f2,f4,f5,f7,f8,f10,f11,f20,rfl⟩:=hJ
  rw [hi] at hB hA hLl f20
  rw [hi]
  refine Qt [(2,.int .i64 params),(4,.ptr 5 wg 0),(5,.ptr 6 wf 0),(7,.ptr 7 wn 0),(8,.ptr 8 wr 0),(10,.fn (.func 24) [] [.ptr 7 wn 0,.ptr 5 wg 0]),(11,.ptr 9 wx 0),(20,.int .i64 ((32:Nat):Int))] ⟨f2,f4,f5,f7,f8,f10,f11,f20,trivial⟩ 12 ?_
  have h32:¬ (((32:Nat):Int)<32):=by omega
  simp -implicitDefEqProofs (disch:=omega) only [go_sem,↓reduceIte,rq,h32]
  have hm30:Qeb 32=30:=rfl
  rw [hm30]
  refine ⟨L',t',v2',v3',v4',rfl,hB,hE,hLl,hA,?_⟩
  repeat' (first | exact rfl | refine ⟨rfl,?_⟩)
 ·obtain ⟨L',t',v2',v3',v4',rfl,hB,hE,hLl,hA,f2,f4,f5,f7,f8,f10,f11,rfl⟩:=hE
  rw [hzf]
  simp only [beH,fnC,Y9,Xv]
  refine Qcd [(2,.int .i64 params),(4,.ptr 5 wg 0),(5,.ptr 6 wf 0),(7,.ptr 7 wn 0),(8,.ptr 8 wr 0),(10,.fn (.func 24) [] [.ptr 7 wn 0,.ptr 5 wg 0]),(11,.ptr 9 wx 0)] ⟨f2,f4,f5,f7,f8,f10,f11,trivial⟩  12 ?_
  have hmx:(if (0:Int)<min params 6 then min params 6 else 0)=max 0 (min params 6):=by split <;> omega
  simp -implicitDefEqProofs (disch:=omega) only [go_sem,↓reduceIte,rA,rq,rL,Int.reduceEq,hq,hmin,hmx,hsum]
  iterate 20 (try (refine Qa 4 ?_; simp -implicitDefEqProofs (disch:=omega) only [go_sem]))
  have hc32:(stC L' b 32 (.lst 0 [] true) (decide (Fz=0)))[32]?=some (.lst 0 [] true):=by
   unfold stC; rw [List.getElem?_append_right (by rw [QW]; omega),QW]; rfl
  refine Xr (HShift.shift (HShift.ownAt 1 36 (k:=9) (p:=32) (v:=wx) (T':=40) (cs:=stC L' b 32 (.lst 0 [] true) (decide (Fz=0))) (zL _) rfl hc32)) ?_
  have hcs:∀ s:V,(stC L' b 32 (.lst 0 [] true) (decide (Fz=0))).set 32 s=stC L' b 32 s (decide (Fz=0)):=fun s=>by
   unfold stC; rw [List.set_append_right _ _ (by rw [QW]; omega),QW]; rfl
  simp only [kGs_9,QiR,QCB,lC,lN,cA,nA,rA,hcs]
  refine QpE cnt (slJ F zf v0 v1 wg wf wn wr wx cnt zs L b (decide (Fz=0))) (slE F zf v0 v1 wg wf wn wr wx cnt zs L b (decide (Fz=0))) ⟨L',t'+1,v2',v3',v4',t',hB,hE,by omega,hA,fun i hi=>by omega,?_⟩ (fun k hk fr σ hJ=>QEC hT F (by omega) hL hc20 hk hJ) (fun k hk fr σ hJ=>?_) (fun e fr σ hE=>?_)
  ·rw [show b+30+((0:Nat):Int)=b+30 by omega,hzf]
   refine ya ?_
   exact ⟨rfl,rfl⟩
  ·obtain ⟨L2,t2,w2,w3,w4,ws,hB2,hE2,hL2,hA2,hS2,f7,f8,f10,f11,f49,f48,rfl⟩:=hJ
   rw [hk] at hB2 hS2 hL2 f49
   rw [hk]
   refine Qt [(7,.ptr 7 wn 0),(8,.ptr 8 wr 0),(10,.fn (.func 24) [] [.ptr 7 wn 0,.ptr 5 wg 0]),(11,.ptr 9 wx 0),(49,.int .i64 ((cnt:Nat):Int)),(48,.int .i64 ((cnt:Nat):Int))] ⟨f7,f8,f10,f11,f49,f48,trivial⟩ 12 ?_
   simp -implicitDefEqProofs (disch:=omega) only [go_sem,↓reduceIte,rq,Int.lt_irrefl]
   refine ⟨L2,t2,w2,w3,w4,ws,rfl,hB2,hE2,by omega,hA2,hS2,?_⟩
   repeat' (first | exact rfl | refine ⟨rfl,?_⟩)
  ·obtain ⟨L2,t2,w2,w3,w4,ws,rfl,hB2,hE2,hL2,hA2,hS2,f7,f8,f10,f11,rfl⟩:=hE
   simp only [beH,cA,nA]
   refine Qcd [(7,.ptr 7 wn 0),(8,.ptr 8 wr 0),(10,.fn (.func 24) [] [.ptr 7 wn 0,.ptr 5 wg 0]),(11,.ptr 9 wx 0)] ⟨f7,f8,f10,f11,trivial⟩  12 ?_
   have hsl:=QhC L2 b 32 (.sl 10 ws 0 1 cnt none) (decide (Fz=0))
   have htk:List.take 34 (stC L2 b 32 (.sl 10 ws 0 1 cnt none) (decide (Fz=0)))=stC L2 b 32 (.sl 10 ws 0 1 cnt none) (decide (Fz=0)):=List.take_of_length_le (by omega)
   have hzl:zs.length=34:=by rw [hzs]; simp
   have hdz:List.drop 34 zs=[]:=List.drop_of_length_le (by omega)
   have hon:ones (stC L2 b 32 (.sl 10 ws 0 1 cnt none) (decide (Fz=0))):=by
    unfold stC Qfb
    intro c hc
    simp only [List.mem_append,List.mem_map,List.mem_cons,List.not_mem_nil,or_false] at hc
    rcases hc with ⟨r,_,rfl⟩ | rfl | rfl <;> rfl
   simp -implicitDefEqProofs (disch:=omega) only [go_sem,↓reduceIte,reduceCtorEq,rq,hsl,htk,hdz,hzl,hon,List.append_nil]
   refine ⟨L2,t2,w2,w3,w4,ws,_,_,_,_,_,hB2,hE2,hL2,hA2,hS2,rfl,rfl,rfl⟩
end
section
attribute [local go_sem] cA lM nA lR zA zL V.cells and_true Xv decide_false decide_true false_implies fnC ge_iff_le gt_iff_lt inC Y9 XY QNC QNB Yg zqq_0 zqq_1 XF QOd QOc true_and true_implies
theorem Qld {nm:List UInt8} {pl F:Int} {c:List In} {K:List Int}:Qb (fnC nm pl c F K)=true:=by simp [fnC,Y9,Xv,Qb,Qd]
theorem Qpj (hT:Qf P tab) (nm:List UInt8) (pl F:Int) (c:List In) (K:List Int) (i:Int) (hl:c.length≤1000000) (hi:-10≤i∧i≤2000000):Am.Pure P G YF [.agg (fnC nm pl c F K),.int .i64 i] fun v=>v=.bool (Qbj c F i):=by
 intro t
 have hA:=Qyi (P:=P) (G:=G) hT nm pl F c K i (QoC 2 2 F) hl
 have hB:=Qyi (P:=P) (G:=G) hT nm pl F c K (i+1) jr hl
 have w1:IntKind.i64.wrap (i+1)=i+1:=Yz (by omega)
 have hn:∀ (n:Int) (x:In),Qb [.agg (fnC nm pl c F K),.int .i64 n,.agg (inC x)]=true:=fun n x=>by
  have:=Qld (nm:=nm) (pl:=pl) (F:=F) (c:=c) (K:=K)
  simp [Qb,Qd,this,inC]
 simp only [fnC,Y9,Xv,inC,QoC,jr] at hA hB hn
 unfold Qbj
 simp only [QoC,jr]
 refine Qi 0 (zL _) (Qk hT X9 (by simp [XF]) (Qg 12 ?_))
 by_cases h0:0<F
 ·have h0':decide (0<F)=true:=decide_eq_true h0
  refine yf ?_
  iterate 3 (try (refine Qa 4 ?_; simp -implicitDefEqProofs (disch:=omega) only [go_sem,↓reduceIte,reduceCtorEq,rA,rq,rL]))
  refine Qj hT Xx hA (hn _ ⟨22,2,2,0,F⟩) 4 ?_
  refine ya ?_
  cases hb:isI c i ⟨22,2,2,0,F⟩ with
  | true =>
    refine ya ?_
    iterate 4 (try (refine Qa 4 ?_; simp -implicitDefEqProofs (disch:=omega) only [go_sem,↓reduceIte,reduceCtorEq,rA,rq,rL,w1]))
    refine Qj hT Xx hB (hn _ ⟨4,0,1,0,0⟩) 4 ?_
    refine ya ?_
    iterate 4 (try (refine Qa 4 ?_; simp -implicitDefEqProofs (disch:=omega) only [go_sem,↓reduceIte,reduceCtorEq,rq]))
  | false =>
    simp -implicitDefEqProofs (disch:=omega) only [go_sem,Bool.false_eq_true]
    iterate 4 (try (refine Qa 4 ?_; simp -implicitDefEqProofs (disch:=omega) only [go_sem,↓reduceIte,reduceCtorEq,rq]))
 ·have h0':decide (0<F)=false:=decide_eq_false h0
  refine yf ?_
  iterate 6 (try (refine Qa 4 ?_; simp -implicitDefEqProofs (disch:=omega) only [go_sem,↓reduceIte,reduceCtorEq,rq]))
theorem Qmj (hT:Qf P tab) (nm:List UInt8) (pl F:Int) (c:List In) (K:List Int) (i:Int) (hl:c.length≤1000000) (hi:-9≤i∧i≤2000000):Am.Pure P G Zm [.agg (fnC nm pl c F K),.int .i64 i] fun v=>v=.bool (ret c F i):=by
 intro t
 have hA:=Qyi (P:=P) (G:=G) hT nm pl F c K i jr hl
 have hB:=Qpj (P:=P) (G:=G) hT nm pl F c K (i - 1) hl (by omega)
 have w1:IntKind.i64.wrap (i - 1)=i - 1:=Yz (by omega)
 have hn:∀ (n:Int) (x:In),Qb [.agg (fnC nm pl c F K),.int .i64 n,.agg (inC x)]=true:=fun n x=>by
  have:=Qld (nm:=nm) (pl:=pl) (F:=F) (c:=c) (K:=K)
  simp [Qb,Qd,this,inC]
 have hn2:Qb [.agg (fnC nm pl c F K),.int .i64 (i - 1)]=true:=by
  have:=Qld (nm:=nm) (pl:=pl) (F:=F) (c:=c) (K:=K)
  simp [Qb,Qd,this]
 simp only [fnC,Y9,Xv,inC,jr] at hA hB hn hn2
 unfold ret
 simp only [jr]
 refine Qi 0 (zL _) (Qk hT Xh (by simp [Yg]) (Qg 12 ?_))
 refine ya ?_
 refine Qj hT Xx hA (hn _ ⟨4,0,1,0,0⟩) 4 ?_
 refine ya ?_
 cases hb:isI c i ⟨4,0,1,0,0⟩ with
 | false =>
   simp -implicitDefEqProofs (disch:=omega) only [go_sem,Bool.false_eq_true]
   iterate 6 (try (refine Qa 4 ?_; simp -implicitDefEqProofs (disch:=omega) only [go_sem,↓reduceIte,reduceCtorEq,rq]))
 | true =>
   by_cases h0:F=0
   ·have h0':(F==0)=true:=by simp [h0]
    refine yj ?_
    iterate 6 (try (refine Qa 4 ?_; simp -implicitDefEqProofs (disch:=omega) only [go_sem,↓reduceIte,reduceCtorEq,rA,rq]))
    try simp [h0]
   ·have h0':(F==0)=false:=by simp [h0]
    refine yj ?_
    iterate 3 (try (refine Qa 4 ?_; simp -implicitDefEqProofs (disch:=omega) only [go_sem,↓reduceIte,reduceCtorEq,rA,rq,w1]))
    refine Qj hT X9 hB hn2 4 ?_
    refine ya ?_
    iterate 4 (try (refine Qa 4 ?_; simp -implicitDefEqProofs (disch:=omega) only [go_sem,↓reduceIte,reduceCtorEq,rq]))
    try simp [h0]
theorem QF1 (hT:Qf P tab) (nm:List UInt8) (pl F:Int) (c:List In) (K:List Int) (k:Int) {base t:Nat} {o:List (Option Ob)}:C P G base YX [.int .i64 k,.ref (.agg (fnC nm pl c F K)) 0] ⟨t,o⟩ fun v σ=>v=.bool (!decide (0≤k∧k<c.length))∧σ=⟨t,o⟩:=by
 refine Qk hT QaV (by simp [XY]) (Qg 12 ?_)
 by_cases h0:k<0
 ·have h0':decide (k<0)=true:=decide_eq_true h0
  refine yf ?_
  iterate 4 (try (refine Qa 4 ?_; simp -implicitDefEqProofs (disch:=omega) only [go_sem,↓reduceIte,reduceCtorEq,rq]))
  try simp; omega
 ·have h0':decide (k<0)=false:=decide_eq_false h0
  refine yf ?_
  iterate 4 (try (refine Qa 4 ?_; simp -implicitDefEqProofs (disch:=omega) only [go_sem,↓reduceIte,reduceCtorEq,rA,rq]))
  congr 1
  rw [Bool.eq_iff_iff]
  simp
  omega
end
section
attribute [local go_sem] nF nT cA lM nA aZ lR Nat.mul_one Nat.one_mul Nat.succ_ne_zero zA zL Nat.zero_mul Option.getD_none Option.getD_some Option.isSome_none Option.isSome_some V.cells and_true beq_self_eq_true bne_self_eq_false Xv decide_false decide_true false_implies fnC ge_iff_le gt_iff_lt inC Y9 Qu not_false_eq_true not_true_eq_false Yw QNV QNU QAr QNT QNS QNR QAq QAp QAo QAn QAm true_and true_implies
def fnR (nm:List UInt8) (pl:Int) (c:List In) (F:Int) (K:List Int):V:=.ref (.agg (fnC nm pl c F K)) 0
theorem QRr {n:Int} (h:-9223372036854775808≤n∧n≤9223372036854775807):-2305843009213693952≤n.tdiv 4∧n.tdiv 4≤2305843009213693951:=by
 rcases Int.le_total 0 n with h0 | h0
 ·rw [Int.tdiv_eq_ediv_of_nonneg h0]; omega
 ·obtain ⟨m,rfl⟩:∃ m,n=-m:=⟨-n,by omega⟩
  rw [Int.neg_tdiv,Int.tdiv_eq_ediv_of_nonneg (by omega)]; omega
variable {x:In} {k:Nat} {c:List In} {i:Int}
theorem QCM (h:c[k]?=some x):QPY i k (c.drop k)=((Qbw x&&decide (tgt x (k:Int)=i)) || QPY i (k+1) (c.drop (k+1))):=by
 have hl:=(List.getElem?_eq_some_iff.1 h).1
 rw [List.drop_eq_getElem_cons hl,(List.getElem?_eq_some_iff.1 h).2]
 rfl
abbrev enJ (nm:List UInt8) (pl:Int) (c:List In) (F:Int) (K:List Int) (i:Int):Nat→Fr→H→Prop:=fun k fr σ=>∃ t,QPY i 0 c=QPY i k (c.drop k)∧Ql fr 1=.int .i64 i∧Ql fr 2=.ref (.agg (fnC nm pl c F K)) 0∧Ql fr 30=Y9 c∧Ql fr 31=.int .i64 c.length∧Ql fr 32=.int .i64 ((k:Nat):Int)∧σ=⟨t,[none]⟩
abbrev enE (c:List In) (i:Int):AE→Fr→H→Prop:=fun e fr σ=>(e=.ret∧QPY i 0 c=true∧Ql fr 4=.bool false)∨(e=.ex 0∧QPY i 0 c=false)
theorem QFF (hT:Qf P tab) {nm:List UInt8} {pl F:Int} {K:List Int} (hl:c.length≤1000000) (hc:∀ x∈c,QqN x) (hx:c[k]?=some x) {fr:Fr} {σ:H} (hJ:enJ nm pl c F K i k fr σ) :
 W P G 49 0 (zg QAq [] (.seq (zw 33 .skip (.exit 0)) (.seq (.block 1 (zg QAp [34,35,36] (zg QAo [37,38,39,40,41,42,43,44,45,46] (zw 47 (zg QAn [] .ret) .skip)))) (.reg QAm [48])))) fr σ (QgX (fun fr σ=>∃ fr' σ',Shift G 49 0 fr σ fr' σ'∧enJ nm pl c F K i (k+1) fr' σ') (enE c i)):=by
 obtain ⟨t,hh,f1,f2,f30,f31,f32,rfl⟩:=hJ
 have hlt:=(List.getElem?_eq_some_iff.1 hx).1
 have hn:=QCM (i:=i) hx
 rw [← hh] at hn
 have hD:=QaI hx
 have hJm:=Qvu (P:=P) (G:=G) hT x
 have hxo:=hc x (List.mem_of_getElem? hx)
 have hi64:-9223372036854775808≤x.imm∧x.imm≤9223372036854775807:=by have:=hxo.2.2.2.2; unfold i64 at this; omega
 have h4:=QRr hi64
 have w1:IntKind.i64.wrap (x.imm.tdiv 4)=x.imm.tdiv 4:=Yz (by omega)
 have w2:IntKind.i64.wrap ((k:Int)+x.imm.tdiv 4)=tgt x k:=by rw [Yz (by omega)]; rfl
 have e2:=Qe9 hlt (by omega)
 simp only [inC] at hD hJm
 refine Qt [(1,.int .i64 i),(2,.ref (.agg (fnC nm pl c F K)) 0),(30,Y9 c),(31,.int .i64 c.length),(32,.int .i64 ((k:Nat):Int))] ⟨f1,f2,f30,f31,f32,trivial⟩  12 ?_
 simp -implicitDefEqProofs (disch:=omega) only [go_sem,↓reduceIte,rq,hlt]
 iterate 6 (try (refine Qa 4 ?_; simp -implicitDefEqProofs (disch:=omega) only [go_sem,↓reduceIte,reduceCtorEq,rA,rq,hlt,hD]))
 cases hj:Qbw x with
 | false =>
   rw [hj] at hJm hn
   rw [Bool.false_and,Bool.false_or] at hn
   refine Qj hT Ys hJm rfl 4 ?_
   refine ya ?_
   iterate 6 (try (refine Qa 4 ?_; simp -implicitDefEqProofs (disch:=omega) only [go_sem,↓reduceIte,rq]))
   refine ⟨_,_,Shift.drop (o':=[none]) (t':=t+1) (by simp [XT]) (lR _) (zL _),t+1,hn,?_⟩
   simp -implicitDefEqProofs (disch:=omega) only [go_sem,↓reduceIte,rq,e2]
 | true =>
   rw [hj] at hJm hn
   rw [Bool.true_and] at hn
   refine Qj hT Ys hJm rfl 4 ?_
   refine ya ?_
   by_cases he:tgt x k=i
   ·have he':(tgt x k==i)=true:=by simp [he]
    rw [decide_eq_true he,Bool.true_or] at hn
    iterate 9 (try (refine Qa 4 ?_; simp -implicitDefEqProofs (disch:=omega) only [go_sem,↓reduceIte,rA,rq,Int.reduceEq,w1,w2,he']))
    exact .inl ⟨rfl,hn,rfl⟩
   ·have he':(tgt x k==i)=false:=by simp [he]
    rw [decide_eq_false he,Bool.false_or] at hn
    iterate 9 (try (refine Qa 4 ?_; simp -implicitDefEqProofs (disch:=omega) only [go_sem,↓reduceIte,rA,rq,Int.reduceEq,w1,w2,he']))
    refine ⟨_,_,Shift.drop (o':=[none]) (t':=t+1) (by simp [XT]) (lR _) (zL _),t+1,hn,?_⟩
    simp -implicitDefEqProofs (disch:=omega) only [go_sem,↓reduceIte,rq,e2]
theorem c_Ends (hT:Qf P tab) (nm:List UInt8) (pl F:Int) (c:List In) (K:List Int) (i:Int) (hl:c.length≤1000000) (hc:∀ x∈c,QqN x) (hi:-9≤i∧i≤2000000):Am.Pure P G QcL [.agg (fnC nm pl c F K),.int .i64 i] fun v=>v=.bool (ends c i):=by
 intro t
 have h3:=Qyi (P:=P) (G:=G) hT nm pl F c K (i - 1) (QoC 17 0 3) hl
 have h4:=Qyi (P:=P) (G:=G) hT nm pl F c K (i - 1) (QoC 17 0 4) hl
 have h5:=Qyi (P:=P) (G:=G) hT nm pl F c K i QwT hl
 have w1:IntKind.i64.wrap (i - 1)=i - 1:=Yz (by omega)
 have hn:∀ (n:Int) (x:In),Qb [.agg (fnC nm pl c F K),.int .i64 n,.agg (inC x)]=true:=fun n x=>by
  have:=Qld (nm:=nm) (pl:=pl) (F:=F) (c:=c) (K:=K)
  simp [Qb,Qd,this,inC]
 have hnl:=Qld (nm:=nm) (pl:=pl) (F:=F) (c:=c) (K:=K)
 simp only [fnC,Y9,Xv,inC,QoC,QwT] at h3 h4 h5 hn
 unfold ends asksI
 simp only [QoC,QwT]
 refine Qi 0 (zL _) (Qk hT Qcy (by simp [Yw]) (Qg 5 ?_))
 refine ya ?_
 refine Xr (Shift.freeze (k:=0) (v:=t) (T:=46) (cs:=fnC nm pl c F K) (zL _) rfl hnl) ?_
 simp only [fnC,Y9,Xv,inC,Qr,Qv,Qp9,XR,QN,List.set_cons_zero,Option.map_none]
 generalize isI c (i - 1) ⟨22,17,0,0,3⟩=b3 at *
 generalize isI c (i - 1) ⟨22,17,0,0,4⟩=b4 at *
 generalize isI c i ⟨64,0,0,0,0⟩=b5 at *
 refine Qa 1 ?_
 refine ya ?_
 refine QpF (fun fr σ=>Ql fr 1=.int .i64 i∧Ql fr 2=.ref (.agg (fnC nm pl c F K)) 0∧Ql fr 5=.bool (b3 || b4)∧σ=⟨t+1,[none]⟩) ?_ fun fr σ hJ=>?_
 ·refine Qg 12 ?_
  simp -implicitDefEqProofs (disch:=omega) only [go_sem,↓reduceIte,reduceCtorEq,rA,rq,rL,w1]
  refine Qj hT Xx h3 (hn _ ⟨22,17,0,0,3⟩) 4 ?_
  refine ya ?_
  cases b3 with
  | true =>
    refine ya ?_
    iterate 6 (try (refine Qa 4 ?_; simp -implicitDefEqProofs (disch:=omega) only [go_sem,↓reduceIte,reduceCtorEq,rq]))
    try simp
  | false =>
    simp -implicitDefEqProofs (disch:=omega) only [go_sem,Bool.false_eq_true]
    iterate 2 (try (refine Qa 4 ?_; simp -implicitDefEqProofs (disch:=omega) only [go_sem,↓reduceIte,reduceCtorEq,rA,rq,rL,w1]))
    refine Qj hT Xx h4 (hn _ ⟨22,17,0,0,4⟩) 4 ?_
    refine ya ?_
    iterate 6 (try (refine Qa 4 ?_; simp -implicitDefEqProofs (disch:=omega) only [go_sem,↓reduceIte,reduceCtorEq,rA,rq,rL,rT,Nat.reduceSub,Nat.reduceMul,Int.reduceToNat,Int.reduceLE,Int.reduceLT,Int.reduceEq,Int.reduceNe,Nat.reduceBEq,Nat.reduceBNe,Int.reduceBEq,Int.reduceBNe,fnR]))
    try simp
 obtain ⟨f1,f2,f5,rfl⟩:=hJ
 refine Qrz [(1,.int .i64 i),(2,.ref (.agg (fnC nm pl c F K)) 0),(5,.bool (b3 || b4))] ⟨f1,f2,f5,trivial⟩ ?_
 refine Qa 12 ?_
 cases hb:b3 || b4 with
 | false =>
   refine ya ?_
   iterate 9 (try (refine Qa 4 ?_; simp -implicitDefEqProofs (disch:=omega) only [go_sem,↓reduceIte,rq]))
 | true =>
   refine ya ?_
   iterate 2 (try (refine Qa 4 ?_; simp -implicitDefEqProofs (disch:=omega) only [go_sem,↓reduceIte,reduceCtorEq,rA,rq,rL,rT,Nat.reduceSub,Nat.reduceMul,Int.reduceToNat,Int.reduceLE,Int.reduceLT,Int.reduceEq,Int.reduceNe,Nat.reduceBEq,Nat.reduceBNe,Int.reduceBEq,Int.reduceBNe,fnR]))
   refine Qj hT Xx h5 (hn _ ⟨64,0,0,0,0⟩) 4 ?_
   refine ya ?_
   cases b5 with
   | false =>
     refine ya ?_
     iterate 9 (try (refine Qa 4 ?_; simp -implicitDefEqProofs (disch:=omega) only [go_sem,↓reduceIte,rq]))
   | true =>
     refine ya ?_
     iterate 5 (try (refine Qa 4 ?_; simp -implicitDefEqProofs (disch:=omega) only [go_sem,↓reduceIte,rA,rq,rL]))
     refine ZJ c (enJ nm pl c F K i) (enE c i) ⟨t+1,by simp,?_⟩ (fun k x hx fr σ hJ=>QFF hT hl hc hx hJ) (fun k hk fr σ hJ=>?_) (fun e fr σ hE=>?_)
     ·refine ya ?_
      try simp
     ·obtain ⟨t2,hh,f1,f2,f30,f31,f32,rfl⟩:=hJ
      rw [hk,List.drop_length] at hh
      refine Qt [(1,.int .i64 i),(2,.ref (.agg (fnC nm pl c F K)) 0),(30,Y9 c),(31,.int .i64 c.length),(32,.int .i64 ((k:Nat):Int))] ⟨f1,f2,f30,f31,f32,trivial⟩  12 ?_
      simp -implicitDefEqProofs (disch:=omega) only [go_sem,↓reduceIte,rq,hk,Nat.lt_irrefl]
      exact .inr ⟨rfl,hh⟩
     ·rcases hE with ⟨rfl,hh,f4⟩ | ⟨rfl,hh⟩
      ·refine Qa 12 ?_
       simp -implicitDefEqProofs (disch:=omega) only [go_sem,f4,hh]
      ·refine Qa 12 ?_
       simp -implicitDefEqProofs (disch:=omega) only [go_sem,↓reduceIte,hh]
end
end Go.Proofs.YtbdhjeojcpgblaaGreatDoor
