/- Contracts of term's functions. -/
import Derived.Test.YtfgccihafnjalaaGreatDoorTabB
import Derived.Test.YtfgccihafnjalaaGreatDoorAmD
import Derived.Test.YtfgccihafnjalaaGreatDoorY
open Nat renaming reduceEqDiff → rq, reduceAdd → rA, reduceLeDiff → rL, reduceLT → rT, zero_add → zA, le_refl → lR, zero_le → zL, add_zero → aZ
open List renaming length_cons → lC, length_nil → lN, take_succ_cons → tS, length_append → lA, nil_append → nA, cons_append → cA, append_assoc → aA, take_nil → tN, take_zero → tZ, length_map → lM
open Bool renaming not_false → nF, not_true → nT
namespace Go.Proofs.YtfgccihafnjalaaGreatDoor
open Go Go.Am
set_option maxRecDepth 100000
variable {P:Program} {G:Nat→Option V}
section
attribute [local go_sem] nF aZ lR Nat.mul_one zA zL beq_self_eq_true ge_iff_le Qz Zz QC2 QC1 Zf QDA QDz QwU QwT QwS QDy QDx QDw QDv QDu QDt QDs QDr Qe4 QCw QCv QwN QCu QCt QCs QCr QCq QCp QCo QCn QcW QDg QDf QDe QDd QDc QDb QDa Qe3 QCm QCl QcV QDq QDp QDo QDn QDm QDl QDk QDj QDi QDh
structure Nd where
 kind:Int
 n:Int
 a:Int
 op:Int
 x:Int
 y:Int
 deriving DecidableEq
def Nd.cells (d:Nd):List V:=[.int .u8 d.kind,.int .i64 d.n,.int .i64 d.a,.int .u8 d.op,.int .i64 d.x,.int .i64 d.y]
theorem c_bare (hT:Qh P tab) (d:Nd):Pure P G QlZ [.agg d.cells] fun v=>v=.agg (Nd.cells ⟨0,if d.kind=1∨d.kind=2∨d.kind=3 then 0 else d.n,if d.kind=3 then 0 else d.a,if d.kind=4 then 0 else d.op,if d.kind=4 then 0 else d.x,if d.kind=3∨d.kind=4 then 0 else d.y⟩):=by
 intro t
 refine Q0 hT QlE (by simp [Qe4]) (Ql 1000 ?_)
 simp -implicitDefEqProofs (disch:=omega) only [go_sem,↓reduceIte,reduceCtorEq,rA,rq,rL,Nd.cells]
 grind
def Nd.parts (d:Nd):List Int:=if d.kind=3 then [d.y] else if d.kind=4 then [d.x,d.y] else []
theorem QI6 (hT:Qh P tab) (d:Nd):Pure P G QjJ [.agg d.cells] fun v=>∃ z,v=.lst z (d.parts.map (V.int .i64)) true∧(z=1∨d.parts=[]):=by
 intro t
 refine Q0 hT QjA (by simp [QcW]) (Ql 1000 ?_)
 simp -implicitDefEqProofs (disch:=omega) only [go_sem,↓reduceIte,reduceCtorEq,rA,rq,rL,Nd.cells,Nd.parts]
 by_cases h3:d.kind=3 <;> by_cases h4:d.kind=4 <;> simp [h3,h4]
def signs:List (List UInt8):=[[],[43],[45],[42],[47],[37],[47,117],[37,117],[38],[124],[94],[60,60],[62,62,117],[62,62],[60],[60,117],[61,61]]
theorem c_sign (hT:Qh P tab) (o:Int) (h0:0≤o) (h1:o≤16):Pure P G QlY [.int .u8 o] fun v=>v=.str (signs.getD o.toNat []):=by
 intro t
 refine Q0 hT QlD (by simp [Qe3]) (Ql 1000 ?_)
 refine ya ?_
 have:o=0∨o=1∨o=2∨o=3∨o=4∨o=5∨o=6∨o=7∨o=8∨o=9∨o=10∨o=11∨o=12∨o=13∨o=14∨o=15∨o=16:=by omega
 rcases this with h | h | h | h | h | h | h | h | h | h | h | h | h | h | h | h | h <;> subst h <;> exact ⟨rfl,rfl⟩
def gS (v0 v1 v2 v3 v4 len:Nat):Option Ob:=some (.arr v0 93 [.sl 2 v2 0 6 len none,.mp 1 v1,.sl 3 v3 0 1 len none,.sl 4 v4 0 1 len none])
variable {base v0 v1 v2 v3 v4 t:Nat}
theorem c_is (hT:Qh P tab) {o:List (Option Ob)} {len:Nat} {id:Int} :
 C P G base Qfh [.ptr 0 v0 0,.int .i64 id] ⟨t,gS v0 v1 v2 v3 v4 len::o⟩ fun v σ=>v=.bool (decide (0≤id∧id<len))∧σ=⟨t,gS v0 v1 v2 v3 v4 len::o⟩:=by
 refine Q0 hT ZA (by simp [Zz]) (Ql 1000 ?_)
 simp -implicitDefEqProofs (disch:=omega) only [go_sem,↓reduceIte,reduceCtorEq,rA,rq,rL,gS]
 by_cases h1:0≤id <;> simp [h1]
def Nd.may (d:Nd) (len:Nat):Bool :=
 decide ((if d.kind=1∨d.kind=2∨d.kind=3 then 0 else d.n)=0∧(if d.kind=3 then 0 else d.a)=0∧(if d.kind=4 then 0 else d.op)=0∧(if d.kind=4 then 0 else d.x)=0∧(if d.kind=3∨d.kind=4 then 0 else d.y)=0) &&
 (if d.kind=1 then true else if d.kind=2 then decide (0≤d.n) else if d.kind=3 then decide (0≤d.n∧0≤d.a∧0≤d.y∧d.y<len) else if d.kind=4 then decide (1≤d.op∧d.op≤16∧0≤d.x∧d.x<len∧0≤d.y∧d.y<len) else false)
theorem c_gmay (hT:Qh P tab) {o1 o2 o3 o4:Option Ob} {len:Nat} (d:Nd) (hb:base≤5) :
 C P G base Qd5 [.ptr 0 v0 0,.agg d.cells] ⟨t,[gS v0 v1 v2 v3 v4 len,o1,o2,o3,o4]⟩ fun v σ=>v=.bool (d.may len)∧∃ t',t≤t'∧σ=⟨t',[gS v0 v1 v2 v3 v4 len,o1,o2,o3,o4]⟩:=by
 refine Xq 5 hb (Q0 hT Qd0 (by simp [Zf]) (Ql 1000 ?_))
 simp -implicitDefEqProofs (disch:=omega) only [go_sem,↓reduceIte,reduceCtorEq,rA,rq,Nd.cells,gS]
 refine QaO hT QlE (c_bare hT d) (by simp [Qd,Qb]) 1000 fun v hv=>?_
 subst hv
 simp -implicitDefEqProofs (disch:=omega) only [go_sem,↓reduceIte,reduceCtorEq,rA,rq,rL,Nd.cells]
 repeat' (first | with_reducible refine And.intro ?_ ?_ | with_reducible intro _)
 any_goals (first | (refine ⟨_,?_,rfl,rfl⟩; omega) | (refine ⟨_,?_,rfl⟩; omega))
 any_goals (refine call hT ZA (c_is hT) 1000 fun v σ hv=>?_; obtain ⟨rfl,rfl⟩:=hv; simp -implicitDefEqProofs (disch:=omega) only [go_sem,↓reduceIte,reduceCtorEq,rA,rq,rL,gS]; repeat' (first | with_reducible refine And.intro ?_ ?_ | with_reducible intro _))
 any_goals (first | (refine ⟨_,?_,rfl,rfl⟩; omega) | (refine ⟨_,?_,rfl⟩; omega))
 any_goals (refine call hT ZA (c_is hT) 1000 fun v σ hv=>?_; obtain ⟨rfl,rfl⟩:=hv; simp -implicitDefEqProofs (disch:=omega) only [go_sem,↓reduceIte,reduceCtorEq,rA,rq,rL,gS]; repeat' (first | with_reducible refine And.intro ?_ ?_ | with_reducible intro _))
 any_goals (first | (refine ⟨_,?_,rfl,rfl⟩; omega) | (refine ⟨_,?_,rfl⟩; omega))
 all_goals (simp only [V.bool.injEq,Nd.may]; grind)
structure Fmt (P:Program) (G:Nat→Option V) where
 fmt:Int→List UInt8
 le:∀ i,(fmt i).length≤24
 int:∀ i:Int,-9223372036854775808≤i→i≤9223372036854775807→Pure P G Zp [.int .i64 i,.int .i64 10] fun v=>v=.str (fmt i)
 itoa:∀ i:Int,-9223372036854775808≤i→i≤9223372036854775807→Pure P G Qcv [.int .i64 i] fun v=>v=.str (fmt i)
def i64 (i:Int):Prop:=-9223372036854775808≤i∧i≤9223372036854775807
def Nd.words (fmt:Int→List UInt8) (d:Nd) (x y:List UInt8):List UInt8 :=
 if d.kind=1 then fmt d.n else if d.kind=2 then [115]++fmt d.n else if d.kind=3 then [97]++fmt d.a++[118]++fmt d.n++[91]++y++[93] else [40]++x++[32]++signs.getD d.op.toNat []++[32]++y++[41]
theorem QI4 (hT:Qh P tab) (F:Fmt P G) (d:Nd) (x y:List UInt8) (hn:i64 d.n) (ha:i64 d.a) (ho:0≤d.op∧d.op≤16) (hx:x.length≤1000000) (hy:y.length≤1000000) :
 Pure P G QjI [.agg d.cells,.str x,.str y] fun v=>v=.str (d.words F.fmt x y):=by
 intro t
 have l1:=F.le d.n
 have l2:=F.le d.a
 have l3:(signs.getD d.op.toNat []).length≤3:=by
  have:d.op=0∨d.op=1∨d.op=2∨d.op=3∨d.op=4∨d.op=5∨d.op=6∨d.op=7∨d.op=8∨d.op=9∨d.op=10∨d.op=11∨d.op=12∨d.op=13∨d.op=14∨d.op=15∨d.op=16:=by omega
  rcases this with h | h | h | h | h | h | h | h | h | h | h | h | h | h | h | h | h <;> rw [h] <;> decide
 refine Q0 hT Qjz (by simp [QcV]) (Ql 1000 ?_)
 simp -implicitDefEqProofs (disch:=omega) only [go_sem,↓reduceIte,reduceCtorEq,rA,rq,rL,Nd.cells]
 refine QaO hT QgJ (F.int d.n hn.1 hn.2) (by simp [Qd,Qb]) 1000 fun v hv=>?_
 subst hv
 refine ya ?_
 repeat' (first | with_reducible refine And.intro ?_ ?_ | with_reducible intro _)
 any_goals (refine QaO hT Qnj (F.itoa d.a ha.1 ha.2) (by simp [Qd,Qb]) 1000 fun v hv=>?_; subst hv; simp -implicitDefEqProofs (disch:=omega) only [go_sem,↓reduceIte,reduceCtorEq,rq,rL,lA])
 any_goals (refine QaO hT QlD (c_sign hT d.op ho.1 ho.2) (by simp [Qd,Qb]) 1000 fun v hv=>?_; subst hv; simp -implicitDefEqProofs (disch:=omega) only [go_sem,↓reduceIte,reduceCtorEq,rq,rL,lA])
 all_goals (simp [Nd.words, *])
end
section
attribute [local go_sem] nF nT aZ lR Nat.mul_one Nat.succ_ne_zero zA zL Option.getD_none Option.getD_some Option.isSome_none Option.isSome_some decide_false decide_true gt_iff_lt Qz Yi Qw9 Qw8 QsA Qsz Qsy Qsx Qsw Qsv Qw7 Qw6 Qw5 Qw4 Qw3 Qw2 Qw1 Qw0 YK QEf QEe QEd QEc
def Qf8:Nat→List Nd→List (V × V)
 | _,[]=>[]
 | k,d::l=>(.agg d.cells,.int .i64 k)::Qf8 (k+1) l
def idx (d:Nd):List Nd→Option Nat
 | []=>none
 | e::l=>if d=e then some 0 else (idx d l).map (·+1)
abbrev k6:List Kd:=[.i,.i,.i,.i,.i,.i]
theorem wrap_i64 {x:Int} (h1:-9223372036854775808≤x) (h2:x≤9223372036854775807):IntKind.i64.wrap x=x:=by
 unfold IntKind.wrap
 simp [IntKind.bits,IntKind.signed]
 omega
theorem Qmo (d e:Nd):Qdz k6 (.agg d.cells) (.agg e.cells)=decide (d=e):=by
 cases d; cases e
 simp [Qdz,Nd.cells,V.cells,QcJ,Qzw]
 grind
theorem QoL (d e:Nd):(QcJ k6 (V.agg d.cells).cells (V.agg e.cells).cells).isSome=true:=by
 simp [Nd.cells,V.cells,QcJ,Qzw]
theorem QuK:∀ (k:Nat) (l:List Nd) (p:V × V),p∈Qf8 k l→∃ d,p.1=.agg (Nd.cells d)
 | _,[],p,h=>by simp [Qf8] at h
 | k,d::l,p,h=>by
   simp only [Qf8,List.mem_cons] at h
   rcases h with h | h
   ·exact ⟨d,by rw [h]⟩
   ·exact QuK (k+1) l p h
theorem Qtg (d:Nd) (k:Nat) (l:List Nd):QbQ true k6 (.agg d.cells) (Qf8 k l):=by
 refine ⟨⟨rfl,QoL d d⟩,fun p hp=>?_⟩
 obtain ⟨e,he⟩:=QuK k l p hp
 rw [he]
 exact ⟨rfl,QoL d e⟩
theorem Qq1 (d:Nd):∀ (k:Nat) (l:List Nd),Qng k6 (.agg d.cells) (Qf8 k l)=(idx d l).map fun i=>V.int .i64 ((k+i:Nat):Int)
 | k,[]=>rfl
 | k,e::l=>by
   have ih:=Qq1 d (k+1) l
   unfold Qng at ih ⊢
   simp only [Qf8,idx,List.find?_cons,Qmo]
   by_cases h:d=e
   ·simp [h]
   ·simp only [h,decide_false,if_false]
    rw [ih]
    cases idx d l <;> simp; omega
theorem Ql8 (d:Nd):∀ (k:Nat) (l:List Nd),Qgd k6 (.agg d.cells) (Qf8 k l)=idx d l
 | k,[]=>rfl
 | k,e::l=>by
   simp only [Qf8,idx,Qgd,Qmo,Ql8 d (k+1) l]
   by_cases h:d=e <;> simp [h]
theorem QdF:∀ (k:Nat) (l:List Nd),(Qf8 k l).length=l.length
 | _,[]=>rfl
 | k,d::l=>by simp [Qf8,QdF (k+1) l]
theorem Qmx:∀ (k:Nat) (l:List Nd) (d:Nd),Qf8 k (l++[d])=Qf8 k l++[(.agg d.cells,.int .i64 ((k+l.length:Nat):Int))]
 | k,[],d=>by simp [Qf8]
 | k,e::l,d=>by simp [Qf8,Qmx (k+1) l d]; omega
theorem QyL (L:List Nd) (d:Nd) (h:idx d L=none):L.length<(Qq2 k6 (.agg d.cells) (.int .i64 0) (Qf8 0 L)).length ∧
 (Qq2 k6 (.agg d.cells) (.int .i64 0) (Qf8 0 L)).modify L.length (fun p=>(p.1,.int .i64 (L.length:Nat)))=Qf8 0 (L++[d]):=by
 have e1:Qq2 k6 (.agg d.cells) (.int .i64 0) (Qf8 0 L)=Qf8 0 L++[(.agg d.cells,.int .i64 0)]:=by
  unfold Qq2
  rw [Ql8,h]
  rfl
 rw [e1,Qmx]
 refine ⟨by simp [QdF],?_⟩
 have:∀ (a:List (V × V)) (b:V × V) (f:V × V→V × V),(a++[b]).modify a.length f=a++[f b]:=fun a b f=>by
  induction a with
  | nil=>rfl
  | cons x a ih=>simpa using ih
 have h2:=this (Qf8 0 L) (.agg d.cells,.int .i64 0) (fun p=>(p.1,.int .i64 (L.length:Nat)))
 rw [QdF] at h2
 rw [h2]
 simp
def ndC (l:List Nd):List V:=(l.map Nd.cells).flatten
theorem Qor (l:List Nd):(ndC l).length=l.length * 6:=by
 induction l with
 | nil=>rfl
 | cons d l ih=>simp [ndC] at ih ⊢; simp [Nd.cells]; omega
def gH (v0 v1 v2 v3 v4:Nat) (L:List Nd) (D N:List Int):List (Option Ob) :=
 [gS v0 v1 v2 v3 v4 L.length,some (.map v1 (Qf8 0 L)),some (.arr v2 108 (ndC L)),some (.arr v3 3 (D.map (V.int .i64))),some (.arr v4 3 (N.map (V.int .i64)))]
def zeroNd:Nd:=⟨0,0,0,0,0,0⟩
theorem QIk {l:List Nd} {i:Nat} {d:Nd} (h:l[i]?=some d):((ndC l).drop (i * 6)).take 6=d.cells:=by
 induction l generalizing i with
 | nil=>simp at h
 | cons e l ih =>
   cases i with
   | zero=>simp at h; subst h; simp [ndC,Nd.cells]
   | succ i =>
     have:=ih (i:=i) (by simpa using h)
     have e1:ndC (e::l)=e.cells++ndC l:=by simp [ndC]
     have e2:(i+1) * 6=e.cells.length+i * 6:=by simp [Nd.cells]; omega
     rw [e1,e2,← List.drop_drop,List.drop_left]
     exact this
theorem c_Node (hT:Qh P tab) {base:Nat} {v0 v1 v2 v3 v4 t:Nat} {L:List Nd} {D N:List Int} {id:Int} (hb:base≤5) :
 C P G base Qaf [.ptr 0 v0 0,.int .i64 id] ⟨t,gH v0 v1 v2 v3 v4 L D N⟩ fun v σ=>v=(if 0≤id∧id<L.length then .tup [.agg (L.getD id.toNat zeroNd).cells,.bool true] else .tup [.agg zeroNd.cells,.bool false])∧∃ t',t≤t'∧σ=⟨t',gH v0 v1 v2 v3 v4 L D N⟩:=by
 refine Xq 5 hb (Q0 hT QR (by simp [YK]) (Ql 1000 ?_))
 simp -implicitDefEqProofs (disch:=omega) only [go_sem,↓reduceIte,reduceCtorEq,rA,rq,gH,gS]
 refine call hT ZA (c_is hT) 1000 fun v σ hv=>?_
 obtain ⟨rfl,rfl⟩:=hv
 by_cases h:0≤id∧id<L.length
 ·obtain ⟨d,hd⟩:∃ d,L[id.toNat]?=some d:=⟨_,List.getElem?_eq_getElem (by omega)⟩
  have hl:=Qor L
  have hc:=QIk hd
  have hlen:id.toNat<L.length:=by omega
  have h6:id.toNat * 6+6≤(ndC L).length:=by omega
  have hgd:L.getD id.toNat zeroNd=d:=by simp [List.getD_eq_getElem?_getD,hd]
  simp -implicitDefEqProofs (disch:=omega) only [go_sem,↓reduceIte,reduceCtorEq,rA,rq,rL,gS,h,hc,hlen,h6,hgd,Nd.cells]
  exact ⟨_,by omega,rfl⟩
 ·simp -implicitDefEqProofs (disch:=omega) only [go_sem,↓reduceIte,reduceCtorEq,rA,rq,rL,gS,h,Nd.cells,zeroNd]
  exact ⟨_,by omega,rfl⟩
theorem Qfg (L:List Nd):Qb (ndC L)=true:=by
 induction L with
 | nil=>rfl
 | cons d l ih=>simp [ndC,Nd.cells,Qb,Qd] at ih ⊢; exact ih
theorem Qbh (D:List Int):Qb (D.map (V.int .i64))=true:=by
 induction D with
 | nil=>rfl
 | cons d l ih=>simp [Qb,Qd,ih]
theorem Qaj (n:Nat):∀ (k:Nat) (L:List Nd),(Qf8 k L).all (fun p=>V.under n p.2)=true
 | _,[]=>rfl
 | k,d::l=>by simp only [Qf8,List.all_cons,Qaj n (k+1) l,Bool.and_true]; rfl
theorem QE8 (v0 v1 v2 v3 v4:Nat) (L:List Nd) (D N:List Int):Qxp 5 (gH v0 v1 v2 v3 v4 L D N)=true:=by
 simp [gH,gS,Qxp,Ob.under,XC,V.under,Qx _ (Qfg L),Qx _ (Qbh D),Qx _ (Qbh N),-List.all_eq_true,Qaj]
def addN (L:List Nd) (d:Nd):Int × List Nd :=
 if d.may L.length then (match idx d L with | some i=>((i:Int),L) | none=>((L.length:Int),L++[d])) else (-1,L)
end
section
attribute [local go_sem] nF nT aZ lR Nat.mul_one Nat.succ_ne_zero zA zL Option.getD_none Option.getD_some Option.isSome_none Option.isSome_some decide_false decide_true gt_iff_lt Qz Yi Qw9 Qw8 QsA Qsz Qsy Qsx Qsw Qsv Qw7 Qw6 Qw5 Qw4 Qw3 Qw2 Qw1 Qw0
def QnK (D:List Int) (ps:List Int):Int:=ps.foldl (fun m p=>max m (D.getD p.toNat 0)) 0
def QA1 (D:List Int) (d:Nd):Int:=QnK D d.parts+1
def Qg8 (L:List Nd):List Int:=L.foldl (fun D d=>D++[QA1 D d]) []
theorem QmI (L:List Nd) (d:Nd):Qg8 (L++[d])=Qg8 L++[QA1 (Qg8 L) d]:=by simp [Qg8,List.foldl_append]
def QiJ (N:List Int) (ps:List Int) (b:Int):Int:=ps.foldl (fun m p=>m+N.getD p.toNat 0) b
def QAt (fmt:Int→List UInt8) (N:List Int) (d:Nd):Int:=if 65537<QiJ N d.parts ((d.words fmt [] []).length:Int) then 65537 else QiJ N d.parts ((d.words fmt [] []).length:Int)
def QgZ (fmt:Int→List UInt8) (L:List Nd):List Int:=L.foldl (fun N d=>N++[QAt fmt N d]) []
theorem Qmd (fmt:Int→List UInt8) (L:List Nd) (d:Nd):QgZ fmt (L++[d])=QgZ fmt L++[QAt fmt (QgZ fmt L) d]:=by simp [QgZ,List.foldl_append]
theorem QkX {α:Type} {p:List α→Prop} (h0:p []) (h1:∀ l a,p l→p (l++[a])) (l:List α):p l:=by
 have:∀ r:List α,p r.reverse:=fun r=>by
  induction r with
  | nil=>exact h0
  | cons a r ih=>rw [List.reverse_cons]; exact h1 _ _ ih
 simpa using this l.reverse
theorem QrD (L:List Nd):(Qg8 L).length=L.length:=by
 refine QkX (p:=fun L=>(Qg8 L).length=L.length) rfl (fun l a h=>?_) L
 rw [QmI]; simp [h]
theorem Qq4 (fmt:Int→List UInt8) (L:List Nd):(QgZ fmt L).length=L.length:=by
 refine QkX (p:=fun L=>(QgZ fmt L).length=L.length) rfl (fun l a h=>?_) L
 rw [Qmd]; simp [h]
theorem QpP {D:List Int} {b:Int} (hD:∀ x∈D,0≤x∧x≤b) (h0:0≤b) (ps:List Int):0≤QnK D ps∧QnK D ps≤b:=by
 have:∀ (ps:List Int) (m:Int),0≤m∧m≤b→0≤ps.foldl (fun m p=>max m (D.getD p.toNat 0)) m∧ps.foldl (fun m p=>max m (D.getD p.toNat 0)) m≤b:=fun ps=>by
  induction ps with
  | nil=>intro m h; exact h
  | cons p ps ih =>
    intro m h
    refine ih _ ?_
    have:0≤D.getD p.toNat 0∧D.getD p.toNat 0≤b:=by
     rw [List.getD_eq_getElem?_getD]
     cases hx:D[p.toNat]? with
     | none=>simp; exact h0
     | some x=>simpa using hD x (List.mem_of_getElem? hx)
    show 0≤max m (D.getD p.toNat 0)∧max m (D.getD p.toNat 0)≤b
    omega
 exact this ps 0 ⟨Int.le_refl _,h0⟩
theorem QA0 (L:List Nd):∀ x∈Qg8 L,0≤x∧x≤L.length:=by
 refine QkX (p:=fun L=>∀ x∈Qg8 L,0≤x∧x≤L.length) (by simp [Qg8]) (fun l a h=>?_) L
 rw [QmI]
 intro x hx
 simp only [List.mem_append,List.mem_singleton] at hx
 rcases hx with hx | rfl
 ·have:=h x hx; simp; omega
 ·have:=QpP (b:=l.length) h (by omega) a.parts
  simp [QA1]; omega
theorem Quu {N:List Int} (hN:∀ x∈N,0≤x∧x≤65537) (ps:List Int) (b:Int) (hb:0≤b):0≤QiJ N ps b∧QiJ N ps b≤b+65537 * ps.length:=by
 induction ps generalizing b with
 | nil=>simp [QiJ]; exact hb
 | cons p ps ih =>
   have:0≤N.getD p.toNat 0∧N.getD p.toNat 0≤65537:=by
    rw [List.getD_eq_getElem?_getD]
    cases hx:N[p.toNat]? with
    | none=>simp
    | some x=>simpa using hN x (List.mem_of_getElem? hx)
   have h2:=ih (b+N.getD p.toNat 0) (by omega)
   simp only [QiJ,List.foldl_cons,lC] at h2 ⊢
   omega
theorem QAs (fmt:Int→List UInt8) (L:List Nd):∀ x∈QgZ fmt L,0≤x∧x≤65537:=by
 refine QkX (p:=fun L=>∀ x∈QgZ fmt L,0≤x∧x≤65537) (by simp [QgZ]) (fun l a h=>?_) L
 rw [Qmd]
 intro x hx
 simp only [List.mem_append,List.mem_singleton] at hx
 rcases hx with hx | rfl
 ·exact h x hx
 ·have:=Quu h a.parts ((a.words fmt [] []).length:Int) (by omega)
  unfold QAt
  split <;> omega
theorem Qz2 {o:Int} (ho:0≤o∧o≤16):(signs.getD o.toNat []).length≤3:=by
 have:o=0∨o=1∨o=2∨o=3∨o=4∨o=5∨o=6∨o=7∨o=8∨o=9∨o=10∨o=11∨o=12∨o=13∨o=14∨o=15∨o=16:=by omega
 rcases this with h | h | h | h | h | h | h | h | h | h | h | h | h | h | h | h | h <;> rw [h] <;> decide
theorem QzF (F:Fmt P G) (d:Nd) (x y:List UInt8) (ho:0≤d.op∧d.op≤16):(d.words F.fmt x y).length≤x.length+y.length+60:=by
 have l1:=F.le d.n
 have l2:=F.le d.a
 have l3:=Qz2 ho
 unfold Nd.words
 split
 ·omega
 ·split
  ·simp only [lA,lC,lN]; omega
  ·split
   ·simp only [lA,lC,lN]; omega
   ·simp only [lA,lC,lN]; omega
def gG (fmt:Int→List UInt8) (v0 v1 v2 v3 v4:Nat) (L:List Nd):List (Option Ob):=gH v0 v1 v2 v3 v4 L (Qg8 L) (QgZ fmt L)
theorem c_AddG (hT:Qh P tab) (F:Fmt P G) {v0 v1 v2 v3 v4 t:Nat} {L:List Nd} (d:Nd) (hL:L.length≤1000000) (hn:i64 d.n) (ha:i64 d.a) :
 C P G 0 QaY [.ptr 0 v0 0,.agg d.cells] ⟨t,gG F.fmt v0 v1 v2 v3 v4 L⟩ fun v σ=>v=.int .i64 (addN L d).1∧∃ t' v2' v3' v4',t≤t'∧σ=⟨t',gG F.fmt v0 v1 v2' v3' v4' (addN L d).2⟩:=by
 have hD:=QrD L
 have hN:=Qq4 F.fmt L
 have hDb:=QA0 L
 have hNb:=QAs F.fmt L
 have hDD:=QmI L d
 have hNN:=Qmd F.fmt L d
 unfold gG
 generalize hDe:Qg8 L=D at hD hDb hDD ⊢
 generalize hNe:QgZ F.fmt L=N at hN hNb hNN ⊢
 have hkm:=Qq1 d 0 L
 have hki:=Ql8 d 0 L
 have hkk:=Qtg d 0 L
 have hkl:=QdF 0 L
 refine Xq 5 (zL _) (Q0 hT QaT (by simp [Yi]) (Ql 1000 ?_))
 simp -implicitDefEqProofs (disch:=omega) only [go_sem,↓reduceIte,reduceCtorEq,rA,rq,gH,gS,Nd.cells]
 refine callE (ex:=_) hT Qd0 (c_gmay (o1:=_) (o2:=_) (o3:=_) (o4:=_) hT d (zL _)) rfl (QE8 ..) (zL _) rfl 1000 fun v σ hv=>?_
 obtain ⟨rfl,t1,ht1,rfl⟩:=hv
 refine ⟨rfl,QE8 ..,rfl,?_⟩
 simp only at ht1
 cases hmay:d.may L.length
 ·simp -implicitDefEqProofs (disch:=omega) only [go_sem,↓reduceIte,reduceCtorEq,rA,rq,rL,gS]
  have e1:addN L d=(-1,L):=by simp [addN,hmay]
  rw [e1]
  simp only [hDe,hNe]
  exact ⟨trivial,_,_,_,_,by omega,⟨rfl,rfl⟩⟩
 ·simp only [Nd.cells] at hkm hki hkk
  cases hidx:idx d L with
  | some i =>
    simp -implicitDefEqProofs (disch:=omega) only [go_sem,↓reduceIte,reduceCtorEq,rA,rq,rL,rT,gS,hkm,hkk,hidx]
    have e1:addN L d=((i:Int),L):=by simp [addN,hmay,hidx]
    rw [e1]
    simp only [hDe,hNe]
    exact ⟨trivial,_,_,_,_,by omega,⟨rfl,rfl⟩⟩
  | none =>
    simp -implicitDefEqProofs (disch:=omega) only [go_sem,↓reduceIte,reduceCtorEq,rA,rq,rL,rT,gS,hkm,hkk,hidx]
    have hop:0≤d.op∧d.op≤16:=by simp only [Nd.may] at hmay; grind
    refine QaO hT Qjz (QI4 hT F d [] [] hn ha hop (by simp) (by simp)) rfl 1000 fun v hv=>?_
    subst hv
    refine ya ?_
    refine QaO hT QjA (QI6 hT d) rfl 1000 fun v hv=>?_
    obtain ⟨z,rfl,hz⟩:=hv
    refine yx ?_
    have hpp:∀ p∈d.parts,0≤p∧p<L.length:=by simp only [Nd.may] at hmay; simp only [Nd.parts]; grind
    refine QlP (fun m fr σ=>∃ i:Nat,i≤d.parts.length∧m=d.parts.length - i∧Qf fr 0=.ptr 0 v0 0∧Qf fr 3=.ptr 5 t 0∧Qf fr 7=.int .i64 L.length∧Qf fr 8=.int .i64 (QnK D (d.parts.take i))∧Qf fr 9=.int .i64 (QiJ N (d.parts.take i) ((d.words F.fmt [] []).length:Int)) ∧
     Qf fr 40=.lst z (d.parts.map (V.int .i64)) true∧Qf fr 41=.int .i64 d.parts.length∧Qf fr 42=.int .i64 i∧σ=⟨t1,gH v0 v1 v2 v3 v4 L D N++[some (.arr t 108 d.cells)]⟩) (fun m fr σ hJ=>?_) (m0:=d.parts.length) ⟨0,zL _,rfl,?_⟩
    ·obtain ⟨i,hi,rfl,f0,f3,f7,f8,f9,f40,f41,f42,rfl⟩:=hJ
     refine Ql 1000 ?_
     rcases Nat.lt_or_ge i d.parts.length with hlt | hge
     ·have hz1:z=1:=by rcases hz with h | h; exact h; rw [h] at hlt; simp at hlt
      subst hz1
      obtain ⟨p,hp⟩:∃ p,d.parts[i]?=some p:=⟨_,List.getElem?_eq_getElem hlt⟩
      obtain ⟨hp0,hp1⟩:=hpp p (List.mem_of_getElem? hp)
      have hg:(d.parts.map (V.int .i64)).getD i .any=V.int .i64 p:=by simp [List.getD_eq_getElem?_getD,hp]
      have hp2:p.toNat<L.length:=by omega
      obtain ⟨x,hx⟩:∃ x,D[p.toNat]?=some x:=⟨_,List.getElem?_eq_getElem (by omega)⟩
      obtain ⟨y,hy⟩:∃ y,N[p.toNat]?=some y:=⟨_,List.getElem?_eq_getElem (by omega)⟩
      have hgD:(D.map (V.int .i64)).getD p.toNat .any=V.int .i64 x:=by simp [List.getD_eq_getElem?_getD,hx]
      have hgN:(N.map (V.int .i64)).getD p.toNat .any=V.int .i64 y:=by simp [List.getD_eq_getElem?_getD,hy]
      simp -implicitDefEqProofs (disch:=omega) only [go_sem,↓reduceIte,reduceCtorEq,rA,rq,rL,gH,gS,Nd.cells,lM,f0,f8,f9,f40,f41,f42,hlt,hg,hp0,hp2,hgD,hgN]
      refine ⟨d.parts.length - (i+1),_,_,by omega,Shift.refl _ _ _ _,i+1,hlt,rfl,?_⟩
      simp -implicitDefEqProofs (disch:=omega) only [go_sem,↓reduceIte,reduceCtorEq,rq,f0,f3,f7,f40,f41]
      have hpl:d.parts.length≤2:=by unfold Nd.parts; split <;> (try split) <;> simp
      have hw:IntKind.i64.wrap ((i:Int)+1)=((i+1:Nat):Int):=by
       rw [wrap_i64 (by omega) (by omega)]; rfl
      have hpl2:(d.parts.take i).length≤2:=by rw [List.length_take]; omega
      have hA:=QpP hDb (by omega) (d.parts.take i)
      have hB:=Quu hNb (d.parts.take i) ((d.words F.fmt [] []).length:Int) (by omega)
      have hxb:=hDb x (List.mem_of_getElem? hx)
      have hyb:=hNb y (List.mem_of_getElem? hy)
      have eA:QnK D (d.parts.take (i+1))=max (QnK D (d.parts.take i)) x:=by
       rw [List.take_add_one,hp,Option.toList_some,QnK,List.foldl_append]; simp [QnK,List.getD_eq_getElem?_getD,hx]
      have eB:QiJ N (d.parts.take (i+1)) ((d.words F.fmt [] []).length:Int)=QiJ N (d.parts.take i) ((d.words F.fmt [] []).length:Int)+y:=by
       rw [List.take_add_one,hp,Option.toList_some,QiJ,List.foldl_append]; simp [QiJ,List.getD_eq_getElem?_getD,hy]
      have hwl:=QzF F d [] [] hop
      simp only [lN] at hwl
      have hw2:IntKind.i64.wrap (QiJ N (d.parts.take i) ((d.words F.fmt [] []).length:Int)+y)=QiJ N (d.parts.take i) ((d.words F.fmt [] []).length:Int)+y:=wrap_i64 (by omega) (by omega)
      rw [hw,eA,eB,hw2]
      (repeat' (first | with_reducible refine And.intro ?_ ?_ | with_reducible intro _))
      all_goals first | rfl | (congr 1; omega) | skip
     ·simp -implicitDefEqProofs (disch:=omega) only [go_sem,↓reduceIte,gH,gS,Nd.cells,f41,f42,show ¬ i<d.parts.length from by omega]
      refine Qa 1000 ?_
      simp -implicitDefEqProofs (disch:=omega) only [go_sem,↓reduceIte,reduceCtorEq,rA,rq,rL,rT,lM,f0,f3,f7,f8,f9,hkm,hki,hkk,hkl,hidx,Qor,hD,hN]
      obtain ⟨hm1,hm2⟩:=QyL L d hidx
      simp only [Nd.cells] at hm1 hm2
      refine ⟨⟨by omega,hm1⟩,?_⟩
      simp only [addN,hmay,hidx,if_true]
      refine ⟨trivial,_,t1,t1+1,t1+1+1,by omega,⟨rfl,?_⟩⟩
      rw [hm2,hDD,hNN]
      have hi:i=d.parts.length:=by omega
      subst hi
      have hA:=QpP hDb (by omega) d.parts
      have hw3:IntKind.i64.wrap (QnK D d.parts+1)=QnK D d.parts+1:=wrap_i64 (by omega) (by omega)
      simp [ndC,Nd.cells,QA1,QAt,hw3]
    ·simp -implicitDefEqProofs (disch:=omega) only [go_sem,↓reduceIte,reduceCtorEq,rq,gH,gS,Nd.cells]
     exact ⟨rfl,rfl,rfl⟩
end
section
attribute [local go_sem] zA QhG zqf_0 zqf_1
theorem QI9 (hT:Qh P tab) {base:Nat} {t:Nat} {o:List (Option Ob)} (hb:base≤o.length) :
 C P G base Qos [] ⟨t,o⟩ fun v σ=>∃ v0 v1 v2 v3 v4 t' i1 i2 i3 i4,t≤t'∧v=.ptr (o.length+1) v0 0∧σ=⟨t',o++[some (.map v1 []),some (.arr v0 93 [.sl i2 v2 0 6 0 none,.mp i1 v1,.sl i3 v3 0 1 0 none,.sl i4 v4 0 1 0 none]),some (.arr v2 108 []),some (.arr v3 3 []),some (.arr v4 3 [])]⟩ ∧
  i1=o.length∧i2=o.length+2∧i3=o.length+3∧i4=o.length+4:=by
 refine QBx (Q:=fun v σ=>v=.ptr (o.length+1) (t+1) 0∧σ=⟨t+2,o++[some (.map t []),some (.arr (t+1) 93 [.lst 0 [] true,.mp o.length t,.lst 0 [] true,.lst 0 [] true])]⟩) ?_ fun v σ hv=>?_
 ·refine Q0 hT QfX (by simp [QhG]) (Ql 1000 ?_)
  refine ya ?_
  simp
 ·obtain ⟨rfl,rfl⟩:=hv
  have h1:=HShift.ownAt (G:=G) 6 108 (base:=base) (k:=o.length+1) (v:=t+1) (T':=93) (p:=0) (z:=0) (cs:=[.lst 0 [] true,.mp o.length t,.lst 0 [] true,.lst 0 [] true]) (t:=t+2) (o:=o++[some (.map t []),some (.arr (t+1) 93 [.lst 0 [] true,.mp o.length t,.lst 0 [] true,.lst 0 [] true])]) (by omega) (by simp) rfl
  simp [] at h1
  have h2:=HShift.ownAt (G:=G) 1 3 (base:=base) (k:=o.length+1) (v:=t+1) (T':=93) (p:=2) (z:=0) (cs:=[.sl (o.length+2) (t+2) 0 6 0 none,.mp o.length t,.lst 0 [] true,.lst 0 [] true]) (t:=t+2+1) (o:=o++[some (.map t []),some (.arr (t+1) 93 [.sl (o.length+2) (t+2) 0 6 0 none,.mp o.length t,.lst 0 [] true,.lst 0 [] true]),some (.arr (t+2) 108 [])]) (by omega) (by simp) rfl
  simp [] at h2
  have h3:=HShift.ownAt (G:=G) 1 3 (base:=base) (k:=o.length+1) (v:=t+1) (T':=93) (p:=3) (z:=0) (cs:=[.sl (o.length+2) (t+2) 0 6 0 none,.mp o.length t,.sl (o.length+3) (t+2+1) 0 1 0 none,.lst 0 [] true]) (t:=t+2+1+1) (o:=o++[some (.map t []),some (.arr (t+1) 93 [.sl (o.length+2) (t+2) 0 6 0 none,.mp o.length t,.sl (o.length+3) (t+2+1) 0 1 0 none,.lst 0 [] true]),some (.arr (t+2) 108 []),some (.arr (t+2+1) 3 [])]) (by omega) (by simp) rfl
  simp [] at h3
  exact ⟨_,(h1.trans h2).trans h3,t+1,t,t+2,t+2+1,t+2+1+1,t+2+1+1+1,o.length,o.length+2,o.length+3,o.length+4,by omega,rfl,rfl,rfl,rfl,rfl,rfl⟩
end
def kG (fmt:Int→List UInt8) (v0 v1 v2 v3 v4:Nat) (L:List Nd):List (Option Ob) :=
 [some (.map v1 (Qf8 0 L)),some (.arr v0 93 [.sl 2 v2 0 6 L.length none,.mp 0 v1,.sl 3 v3 0 1 L.length none,.sl 4 v4 0 1 L.length none]),some (.arr v2 108 (ndC L)),some (.arr v3 3 ((Qg8 L).map (V.int .i64))),some (.arr v4 3 ((QgZ fmt L).map (V.int .i64)))]
theorem YQ (r:Nat→Nat):∀ (k:Nat) (L:List Nd),(Qf8 k L).map (fun p=>(p.1,V.ren r p.2))=Qf8 k L
 | _,[]=>rfl
 | k,d::l=>by simp only [Qf8,List.map_cons,YQ r (k+1) l]; rw [V.ren_nameless _ rfl]
theorem Qat (r:Nat→Nat) (L:List Nd):Qbs r (ndC L)=ndC L:=Q5 _ (Qfg L)
theorem Zj (r:Nat→Nat) (L:List Int):Qbs r (L.map (V.int .i64))=L.map (V.int .i64):=Q5 _ (Qbh L)
theorem Qdd (k:Nat) (L:List Nd):XC k (ndC L)=true:=Qx _ (Qfg L)
theorem QbP (k:Nat) (L:List Int):XC k (L.map (V.int .i64))=true:=Qx _ (Qbh L)
theorem Qdm {α:Type}:∀ (l:List α) (i:Nat) (x:α),l[i]?=some x→l.set i x=l
 | [],_,_,_=>rfl
 | a::l,0,x,h=>by simp at h; simp [h]
 | a::l,i+1,x,h=>by simp [Qdm l i x (by simpa using h)]
variable {L:List Nd} {v0 v1 v2 v3 v4 t base:Nat} {fmt:Int→List UInt8}
theorem k_read {f:Nat} {args:List V} {r:V} {ex:List (Option Ob)} (h:C P G 5 f (.ptr 0 v0 0::args) ⟨t,gG fmt v0 v1 v2 v3 v4 L⟩ fun v σ=>v=r∧∃ t',t≤t'∧σ=⟨t',gG fmt v0 v1 v2 v3 v4 L⟩)
 (ha:Qb args=true) (hr:Qd r=true) :
 C P G base f (.ptr 1 v0 0::args) ⟨t,kG fmt v0 v1 v2 v3 v4 L++ex⟩ fun v σ=>v=r∧∃ t',t≤t'∧σ=⟨t',kG fmt v0 v1 v2 v3 v4 L++ex⟩:=by
 refine Qjj [1,0,2,3,4] h rfl (by decide) ?_ ?_ ?_ (lR _) ?_ ?_ fun v σ hv=>?_
 ·simp [Qnu,kG]
 ·simp [Qmq,gG,gH,gS,kG,Ob.under,XC,V.under,Ob.ren,Qbs,V.ren,rOf,YQ,Qat,Zj,Qdd,QbP,-List.all_eq_true,Qaj]
 ·simp [Qzv]
 ·simp [XC,V.under,gG,gH,Qx _ ha]
 ·simp only [Qbs,V.ren]
  rw [Q5 _ ha]
  simp [rOf]
 ·obtain ⟨rfl,t',h1,rfl⟩:=hv
  refine ⟨by simp [gG,gH],V.ren_nameless _ hr,t',h1,?_⟩
  simp [QbJ,Qa9,gG,gH,gS,kG,Ob.ren,Qbs,V.ren,rOf,YQ,Qat,Zj]
theorem k_Add (hT:Qh P tab) (F:Fmt P G) {ex:List (Option Ob)} (d:Nd) (hL:L.length≤1000000) (hn:i64 d.n) (ha:i64 d.a) :
 C P G 0 QaY [.ptr 1 v0 0,.agg d.cells] ⟨t,kG F.fmt v0 v1 v2 v3 v4 L++ex⟩ fun v σ=>v=.int .i64 (addN L d).1∧∃ t' v2' v3' v4',t≤t'∧σ=⟨t',kG F.fmt v0 v1 v2' v3' v4' (addN L d).2++ex⟩:=by
 refine Qjj [1,0,2,3,4] (c_AddG hT F (v0:=v0) (v1:=v1) (v2:=v2) (v3:=v3) (v4:=v4) d hL hn ha) rfl (by decide) ?_ ?_ ?_ (zL _) rfl ?_ fun v σ hv=>?_
 ·simp [Qnu,kG]
 ·simp [Qmq,gG,gH,gS,kG,Ob.under,XC,V.under,Ob.ren,Qbs,V.ren,rOf,YQ,Qat,Zj,Qdd,QbP,-List.all_eq_true,Qaj]
 ·simp [Qzv]
 ·simp [Qbs,V.ren,rOf,kG,Nd.cells]
 ·obtain ⟨rfl,t',v2',v3',v4',h1,rfl⟩:=hv
  refine ⟨by simp [gG,gH],by simp [V.ren],t',v2',v3',v4',h1,?_⟩
  simp [QbJ,Qa9,gG,gH,gS,kG,Ob.ren,Qbs,V.ren,rOf,YQ,Qat,Zj]
theorem Qux (hT:Qh P tab) {ex:List (Option Ob)} {id:Int} :
 C P G base Qaf [.ptr 1 v0 0,.int .i64 id] ⟨t,kG fmt v0 v1 v2 v3 v4 L++ex⟩ fun v σ=>v=(if 0≤id∧id<L.length then .tup [.agg (L.getD id.toNat zeroNd).cells,.bool true] else .tup [.agg zeroNd.cells,.bool false])∧∃ t',t≤t'∧σ=⟨t',kG fmt v0 v1 v2 v3 v4 L++ex⟩ :=
 k_read (c_Node hT (lR _)) rfl (by split <;> rfl)
variable {x0 y x1 x2 x3 x4:Option Ob}
theorem Qkg {ex:List (Option Ob)}:(kG fmt v0 v1 v2 v3 v4 L++x0::ex)[5]?=some x0:=rfl
theorem QdB {ex:List (Option Ob)}:(kG fmt v0 v1 v2 v3 v4 L++x0::ex).set 5 y=kG fmt v0 v1 v2 v3 v4 L++y::ex:=rfl
theorem Qnh {ex:List (Option Ob)}:(kG fmt v0 v1 v2 v3 v4 L++x0::x1::ex)[6]?=some x1:=rfl
theorem Qg0 {ex:List (Option Ob)}:(kG fmt v0 v1 v2 v3 v4 L++x0::x1::ex).set 6 y=kG fmt v0 v1 v2 v3 v4 L++x0::y::ex:=rfl
theorem Qsl {ex:List (Option Ob)}:(kG fmt v0 v1 v2 v3 v4 L++x0::x1::x2::ex)[7]?=some x2:=rfl
theorem Qh2 {ex:List (Option Ob)}:(kG fmt v0 v1 v2 v3 v4 L++x0::x1::x2::ex).set 7 y=kG fmt v0 v1 v2 v3 v4 L++x0::x1::y::ex:=rfl
theorem QAB {ex:List (Option Ob)}:(kG fmt v0 v1 v2 v3 v4 L++x0::x1::x2::x3::ex)[8]?=some x3:=rfl
theorem Qny {ex:List (Option Ob)}:(kG fmt v0 v1 v2 v3 v4 L++x0::x1::x2::x3::ex).set 8 y=kG fmt v0 v1 v2 v3 v4 L++x0::x1::x2::y::ex:=rfl
theorem QAA {ex:List (Option Ob)}:(kG fmt v0 v1 v2 v3 v4 L++x0::x1::x2::x3::x4::ex)[9]?=some x4:=rfl
theorem Qnx {ex:List (Option Ob)}:(kG fmt v0 v1 v2 v3 v4 L++x0::x1::x2::x3::x4::ex).set 9 y=kG fmt v0 v1 v2 v3 v4 L++x0::x1::x2::x3::y::ex:=rfl
theorem Qbc {ex:List (Option Ob)}:(kG fmt v0 v1 v2 v3 v4 L++ex).length=5+ex.length:=by simp [kG]; omega
theorem Qeb {ex:List (Option Ob)} {y:List (Option Ob)}:(kG fmt v0 v1 v2 v3 v4 L++ex)++y=kG fmt v0 v1 v2 v3 v4 L++(ex++y):=by simp
section
attribute [local go_sem] nF lR zA zL ZO QD4 QD3 QD2 Qc6 zqh_0 zqh_1 QhT zqm_0 zqm_1
variable {n:Int}
theorem QcU (h:-9223372036854775808≤n∧n≤9223372036854775807):IntKind.i64.wrap n=n:=by
 rw [Zl]
 ·simp [IntKind.min,IntKind.signed,IntKind.bits]; omega
 ·simp [IntKind.max,IntKind.signed,IntKind.bits]; omega
def sy (n:Int):Nd:=⟨2,n,0,0,0,0⟩
def co (n:Int):Nd:=⟨1,n,0,0,0,0⟩
theorem sy_may (h:0≤n) (k:Nat):(sy n).may k=true:=by simp [sy,Nd.may,h]
theorem co_may (n:Int) (k:Nat):(co n).may k=true:=by simp [co,Nd.may]
def Hs (L:List Nd) (d:Nd):Prop:=(idx d L).isSome
def Xc (L:List Nd) (d:Nd):Int:=(((idx d L).getD 0:Nat):Int)
def Ext (L L':List Nd):Prop:=∃ M,L'=L++M∧∀ d∈M,(d=co d.n∨d=sy d.n)∧i64 d.n
theorem Ext.refl (L:List Nd):Ext L L:=⟨[],by simp,by simp⟩
variable {L L':List Nd}
theorem Ext.trans {L'':List Nd} (h:Ext L L') (k:Ext L' L''):Ext L L'':=by
 obtain ⟨M,rfl,h1⟩:=h; obtain ⟨N,rfl,h2⟩:=k; exact ⟨M++N,by simp,fun d hd=>(List.mem_append.1 hd).elim (h1 d) (h2 d)⟩
theorem Qti {d:Nd} {M:List Nd}:∀ {L:List Nd} {i:Nat},idx d L=some i→idx d (L++M)=some i
 | [],_,h=>by simp [idx] at h
 | e::L,i,h=>by
   simp only [idx,cA] at h ⊢
   split
   ·rename_i he; rw [if_pos he] at h; exact h
   ·rename_i he
    rw [if_neg he] at h
    cases hi:idx d L with
    | none=>rw [hi] at h; simp at h
    | some j=>rw [hi] at h; rw [Qti hi]; exact h
variable {d:Nd}
theorem Hs.ext (h:Hs L d) (k:Ext L L'):Hs L' d:=by
 obtain ⟨M,rfl,_⟩:=k
 obtain ⟨i,hi⟩:=Option.isSome_iff_exists.1 h
 unfold Hs; rw [Qti hi]; rfl
theorem Xm (h:Hs L d) (k:Ext L L'):Xc L' d=Xc L d:=by
 obtain ⟨M,rfl,_⟩:=k
 obtain ⟨i,hi⟩:=Option.isSome_iff_exists.1 h
 unfold Xc; rw [Qti hi,hi]
theorem QE5 {d:Nd}:∀ {L:List Nd} {i:Nat},idx d L=some i→L[i]?=some d
 | [],_,h=>by simp [idx] at h
 | e::L,i,h=>by
   simp only [idx] at h
   split at h
   ·rename_i he; cases h; simp [he]
   ·cases hi:idx d L with
    | none=>rw [hi] at h; simp at h
    | some j=>rw [hi] at h; simp at h; subst h; simpa using QE5 hi
theorem Qfr (h:Hs L d):0≤Xc L d∧L[(Xc L d).toNat]?=some d:=by
 obtain ⟨i,hi⟩:=Option.isSome_iff_exists.1 h
 unfold Xc; rw [hi]
 exact ⟨by simp,by simpa using QE5 hi⟩
theorem Qf3 {e:Nd} (h:Hs L d) (k:Hs L e):Xc L d=Xc L e↔d=e:=by
 constructor
 ·intro he
  have h1:=(Qfr h).2
  rw [he,(Qfr k).2] at h1
  exact (Option.some.inj h1).symm
 ·intro he; rw [he]
theorem Qyr {d:Nd}:∀ {L:List Nd},idx d L=none→idx d (L++[d])=some L.length
 | [],_=>by simp [idx]
 | e::L,h=>by
   simp only [idx,cA] at h ⊢
   split at h
   ·cases h
   ·rename_i he
    rw [if_neg he]
    cases hi:idx d L with
    | none=>rw [Qyr hi]; rfl
    | some j=>rw [hi] at h; simp at h
theorem Qzb (hm:d.may L.length=true) (hp:(d=co d.n∨d=sy d.n)∧i64 d.n):Ext L (addN L d).2∧Hs (addN L d).2 d∧(addN L d).1=Xc (addN L d).2 d∧(addN L d).2.length≤L.length+1:=by
 unfold addN
 rw [if_pos hm]
 cases hi:idx d L with
 | some i=>exact ⟨Ext.refl L,by unfold Hs; simp only [hi]; rfl,by simp [Xc,hi],by simp⟩
 | none =>
   have:=Qyr hi
   exact ⟨⟨[d],rfl,fun e he=>by rw [List.mem_singleton] at he; subst he; exact hp⟩,by unfold Hs; simp only [this]; rfl,by simp [Xc,this],by simp⟩
def QJx (fmt:Int→List UInt8) (L:List Nd) (d:Nd) (v0 v1 t:Nat) (ex:List (Option Ob)):V→H→Prop:=fun v σ=>∃ L' t' v2' v3' v4',Ext L L'∧Hs L' d∧L'.length≤L.length+1∧t≤t'∧v=.int .i64 (Xc L' d)∧σ=⟨t',kG fmt v0 v1 v2' v3' v4' L'++ex⟩
variable {v0 v1 v2 v3 v4 t:Nat}
theorem QdA (hT:Qh P tab) (F:Fmt P G) {ex:List (Option Ob)} (hn:i64 n) (hL:L.length≤1000000) :
 C P G 0 QjP [.ptr 1 v0 0,.int .i64 n] ⟨t,kG F.fmt v0 v1 v2 v3 v4 L++ex⟩ (QJx F.fmt L (co n) v0 v1 t ex):=by
 refine Q0 hT XD (by simp [Qc6]) (Ql 1000 ?_)
 simp -implicitDefEqProofs (disch:=omega) only [go_sem,↓reduceIte,reduceCtorEq,rA,rq,rL,tS,tZ,lC,lN]
 refine call hT QaT (k_Add hT F ⟨1,n,0,0,0,0⟩ hL hn (show i64 0 by unfold i64; omega)) 1000 fun v σ hv=>?_
 obtain ⟨rfl,t',v2',v3',v4',ht,rfl⟩:=hv
 obtain ⟨h1,h2,h3,h4⟩:=Qzb (L:=L) (co_may n L.length) ⟨.inl rfl,hn⟩
 refine ya ?_
 exact ⟨_,t',v2',v3',v4',h1,h2,h4,ht,by rw [← h3]; rfl,rfl⟩
theorem Qyi (hT:Qh P tab) (F:Fmt P G) {ex:List (Option Ob)} (hn:i64 n) (h0:0≤n) (hL:L.length≤1000000) :
 C P G 0 Qou [.ptr 1 v0 0,.int .i64 n] ⟨t,kG F.fmt v0 v1 v2 v3 v4 L++ex⟩ (QJx F.fmt L (sy n) v0 v1 t ex):=by
 refine Q0 hT Qbr (by simp [QhT]) (Ql 1000 ?_)
 simp -implicitDefEqProofs (disch:=omega) only [go_sem,↓reduceIte,reduceCtorEq,rA,rq,rL,tS,tZ,lC,lN]
 refine call hT QaT (k_Add hT F ⟨2,n,0,0,0,0⟩ hL hn (show i64 0 by unfold i64; omega)) 1000 fun v σ hv=>?_
 obtain ⟨rfl,t',v2',v3',v4',ht,rfl⟩:=hv
 obtain ⟨h1,h2,h3,h4⟩:=Qzb (L:=L) (sy_may h0 L.length) ⟨.inr rfl,hn⟩
 refine ya ?_
 exact ⟨_,t',v2',v3',v4',h1,h2,h4,ht,by rw [← h3]; rfl,rfl⟩
theorem Qyh (hT:Qh P tab) (F:Fmt P G) {wg wn:Nat} {X:Option Ob} {ex:List (Option Ob)} {b:Int} (h0:0≤b) (hb:b<9223372036854775807) (hL:L.length≤1000000) :
 C P G 0 Qfo [.ptr 7 wn 0,.ptr 5 wg 0] ⟨t,kG F.fmt v0 v1 v2 v3 v4 L++(some (.arr wg 41 [.ptr 1 v0 0])::X::some (.arr wn 2 [.int .i64 b])::ex)⟩ (QJx F.fmt L (sy b) v0 v1 t (some (.arr wg 41 [.ptr 1 v0 0])::X::some (.arr wn 2 [.int .i64 (b+1)])::ex)):=by
 have e1:IntKind.i64.wrap (b+1)=b+1:=QcU (by omega)
 have e2:IntKind.i64.wrap (b+1 - 1)=b:=by rw [QcU (by omega)]; omega
 refine Q0 hT Qby (by simp [ZO]) (Ql 1000 ?_)
 simp -implicitDefEqProofs (disch:=omega) only [go_sem,↓reduceIte,reduceCtorEq,rq,Qkg,Qsl,Qh2,tZ,lC,lN,e1,e2]
 refine call hT Qbr (Qyi hT F (ex:=some (.arr wg 41 [.ptr 1 v0 0])::X::some (.arr wn 2 [.int .i64 (b+1)])::ex) (n:=b) (by unfold i64; omega) h0 hL) 1000 fun v σ hv=>?_
 obtain ⟨L',t',v2',v3',v4',h1,h2,h3,ht,rfl,rfl⟩:=hv
 refine ya ?_
 exact ⟨L',t',v2',v3',v4',h1,h2,h3,ht,rfl,rfl⟩
end
end Go.Proofs.YtfgccihafnjalaaGreatDoor
