/- Contracts of term's functions. -/
import Derived.Test.YtoeicjlflmmmcaaGreatDoorTabB
import Derived.Test.YtoeicjlflmmmcaaGreatDoorAmD
open Nat renaming reduceEqDiff → rq, reduceAdd → rA, reduceLeDiff → rL, reduceLT → rT, zero_add → zA, le_refl → lR, zero_le → zL, add_zero → aZ
open List renaming length_cons → lC, length_nil → lN, take_succ_cons → tSq, length_append → lA, nil_append → nA, cons_append → cA, append_assoc → aA, take_nil → tN, take_zero → tZ, length_map → lM
open Bool renaming not_false → nFq, not_true → nT
namespace Go.Proofs.YtoeicjlflmmmcaaGreatDoor
open Go Go.Am
set_option maxRecDepth 100000
variable {P:Program} {G:Nat→Option V}
section
attribute [local go_sem] nFq aZ lR Nat.mul_one zA zL beq_self_eq_true ge_iff_le Q3 QaG zqq_0 zqq_1 Qai QGz QGy Qv8 Qv7 Qv6 QGx QGw QGv QGu QGt QGs QGr QGq QeL QEz QEy Qvu QEx QEw QEv QEu QEt QEs QEr QEq Qc1 QGf QGe QGd QGc QGb QGa QF9 QeK QEp QEo Qc0 QGp QGo QGn QGm QGl QGk QGj QGi QGh QGg
structure Nd where
 kind:Int
 n:Int
 a:Int
 op:Int
 x:Int
 y:Int
 deriving DecidableEq
def Nd.cells (d:Nd):List V:=[.int .u8 d.kind,.int .i64 d.n,.int .i64 d.a,.int .u8 d.op,.int .i64 d.x,.int .i64 d.y]
theorem c_bare (hT:Qe P tab) (d:Nd):Pure P G Qk4 [.agg d.cells] fun v=>v=.agg (Nd.cells ⟨0,if d.kind=1∨d.kind=2∨d.kind=3 then 0 else d.n,if d.kind=3 then 0 else d.a,if d.kind=4 then 0 else d.op,if d.kind=4 then 0 else d.x,if d.kind=3∨d.kind=4 then 0 else d.y⟩):=by
 intro t
 refine Qo hT QkS (by simp [QeL]) (Qm 1000 ?_)
 simp -implicitDefEqProofs (disch:=omega) only [go_sem,↓reduceIte,reduceCtorEq,rA,rq,rL,Nd.cells]
 grind
def Nd.parts (d:Nd):List Int:=if d.kind=3 then [d.y] else if d.kind=4 then [d.x,d.y] else []
theorem Qym (hT:Qe P tab) (d:Nd):Pure P G QjG [.agg d.cells] fun v=>∃ z,v=.lst z (d.parts.map (V.int .i64)) true∧(z=1∨d.parts=[]):=by
 intro t
 refine Qo hT QeN (by simp [Qc1]) (Qm 1000 ?_)
 simp -implicitDefEqProofs (disch:=omega) only [go_sem,↓reduceIte,reduceCtorEq,rA,rq,rL,Nd.cells,Nd.parts]
 by_cases h3:d.kind=3 <;> by_cases h4:d.kind=4 <;> simp [h3,h4]
def signs:List (List UInt8):=[[],[43],[45],[42],[47],[37],[47,117],[37,117],[38],[124],[94],[60,60],[62,62,117],[62,62],[60],[60,117],[61,61]]
theorem c_sign (hT:Qe P tab) (o:Int) (h0:0≤o) (h1:o≤16):Pure P G Qk3 [.int .u8 o] fun v=>v=.str (signs.getD o.toNat []):=by
 intro t
 refine Qo hT QkR (by simp [QeK]) (Qm 1000 ?_)
 simp -implicitDefEqProofs (disch:=omega) only [go_sem,↓reduceIte,reduceCtorEq,rA,rq,rL]
 have:o=0∨o=1∨o=2∨o=3∨o=4∨o=5∨o=6∨o=7∨o=8∨o=9∨o=10∨o=11∨o=12∨o=13∨o=14∨o=15∨o=16:=by omega
 rcases this with h | h | h | h | h | h | h | h | h | h | h | h | h | h | h | h | h <;> subst h <;> exact ⟨rfl,rfl⟩
def gS (v0 v1 v2 v3 v4 len:Nat):Option Ob:=some (.arr v0 82 [.sl 2 v2 0 6 len none,.mp 1 v1,.sl 3 v3 0 1 len none,.sl 4 v4 0 1 len none])
variable {base v0 v1 v2 v3 v4 t:Nat}
theorem c_is (hT:Qe P tab) {o:List (Option Ob)} {len:Nat} {id:Int} :
 C P G base Qe6 [.ptr 0 v0 0,.int .i64 id] ⟨t,gS v0 v1 v2 v3 v4 len::o⟩ fun v σ=>v=.bool (decide (0≤id∧id<len))∧σ=⟨t,gS v0 v1 v2 v3 v4 len::o⟩:=by
 refine Qo hT ZG (by simp [QaG]) (Qm 1000 ?_)
 simp -implicitDefEqProofs (disch:=omega) only [go_sem,↓reduceIte,reduceCtorEq,rA,rq,rL,gS]
 by_cases h1:0≤id <;> simp [h1]
def Nd.may (d:Nd) (len:Nat):Bool :=
 decide ((if d.kind=1∨d.kind=2∨d.kind=3 then 0 else d.n)=0∧(if d.kind=3 then 0 else d.a)=0∧(if d.kind=4 then 0 else d.op)=0∧(if d.kind=4 then 0 else d.x)=0∧(if d.kind=3∨d.kind=4 then 0 else d.y)=0) &&
 (if d.kind=1 then true else if d.kind=2 then decide (0≤d.n) else if d.kind=3 then decide (0≤d.n∧0≤d.a∧0≤d.y∧d.y<len) else if d.kind=4 then decide (1≤d.op∧d.op≤16∧0≤d.x∧d.x<len∧0≤d.y∧d.y<len) else false)
theorem c_may (hT:Qe P tab) {o1 o2 o3 o4:Option Ob} {len:Nat} (d:Nd) (hb:base≤5) :
 C P G base Qed [.ptr 0 v0 0,.agg d.cells] ⟨t,[gS v0 v1 v2 v3 v4 len,o1,o2,o3,o4]⟩ fun v σ=>v=.bool (d.may len)∧∃ t',t≤t'∧σ=⟨t',[gS v0 v1 v2 v3 v4 len,o1,o2,o3,o4]⟩:=by
 refine Qj 5 hb (Qo hT Qd8 (by simp [Qai]) (Qm 1000 ?_))
 simp -implicitDefEqProofs (disch:=omega) only [go_sem,↓reduceIte,reduceCtorEq,rA,rq,Nd.cells,gS]
 refine Qqk hT QkS (c_bare hT d) (by simp [Qf,Qc]) 1000 fun v hv=>?_
 subst hv
 simp -implicitDefEqProofs (disch:=omega) only [go_sem,↓reduceIte,reduceCtorEq,rA,rq,rL,Nd.cells]
 repeat' (first | with_reducible refine And.intro ?_ ?_ | with_reducible intro _)
 any_goals (first | (refine ⟨_,?_,rfl,rfl⟩; omega) | (refine ⟨_,?_,rfl⟩; omega))
 any_goals (refine call hT ZG (c_is hT) 1000 fun v σ hv=>?_; obtain ⟨rfl,rfl⟩:=hv; simp -implicitDefEqProofs (disch:=omega) only [go_sem,↓reduceIte,reduceCtorEq,rA,rq,rL,gS]; repeat' (first | with_reducible refine And.intro ?_ ?_ | with_reducible intro _))
 any_goals (first | (refine ⟨_,?_,rfl,rfl⟩; omega) | (refine ⟨_,?_,rfl⟩; omega))
 any_goals (refine call hT ZG (c_is hT) 1000 fun v σ hv=>?_; obtain ⟨rfl,rfl⟩:=hv; simp -implicitDefEqProofs (disch:=omega) only [go_sem,↓reduceIte,reduceCtorEq,rA,rq,rL,gS]; repeat' (first | with_reducible refine And.intro ?_ ?_ | with_reducible intro _))
 any_goals (first | (refine ⟨_,?_,rfl,rfl⟩; omega) | (refine ⟨_,?_,rfl⟩; omega))
 all_goals (simp only [V.bool.injEq,Nd.may]; grind)
structure Fmt (P:Program) (G:Nat→Option V) where
 fmt:Int→List UInt8
 le:∀ i,(fmt i).length≤24
 int:∀ i:Int,-9223372036854775808≤i→i≤9223372036854775807→Pure P G Qcb [.int .i64 i,.int .i64 10] fun v=>v=.str (fmt i)
 itoa:∀ i:Int,-9223372036854775808≤i→i≤9223372036854775807→Pure P G QgJ [.int .i64 i] fun v=>v=.str (fmt i)
def i64 (i:Int):Prop:=-9223372036854775808≤i∧i≤9223372036854775807
def Nd.words (fmt:Int→List UInt8) (d:Nd) (x y:List UInt8):List UInt8 :=
 if d.kind=1 then fmt d.n else if d.kind=2 then [115]++fmt d.n else if d.kind=3 then [97]++fmt d.a++[118]++fmt d.n++[91]++y++[93] else [40]++x++[32]++signs.getD d.op.toNat []++[32]++y++[41]
theorem QL6 (hT:Qe P tab) (F:Fmt P G) (d:Nd) (x y:List UInt8) (hn:i64 d.n) (ha:i64 d.a) (ho:0≤d.op∧d.op≤16) (hx:x.length≤1000000) (hy:y.length≤1000000) :
 Pure P G QjF [.agg d.cells,.str x,.str y] fun v=>v=.str (d.words F.fmt x y):=by
 intro t
 have l1:=F.le d.n
 have l2:=F.le d.a
 have l3:(signs.getD d.op.toNat []).length≤3:=by
  have:d.op=0∨d.op=1∨d.op=2∨d.op=3∨d.op=4∨d.op=5∨d.op=6∨d.op=7∨d.op=8∨d.op=9∨d.op=10∨d.op=11∨d.op=12∨d.op=13∨d.op=14∨d.op=15∨d.op=16:=by omega
  rcases this with h | h | h | h | h | h | h | h | h | h | h | h | h | h | h | h | h <;> rw [h] <;> decide
 refine Qo hT QjC (by simp [Qc0]) (Qm 1000 ?_)
 simp -implicitDefEqProofs (disch:=omega) only [go_sem,↓reduceIte,reduceCtorEq,rA,rq,rL,Nd.cells]
 refine Qqk hT QgP (F.int d.n hn.1 hn.2) (by simp [Qf,Qc]) 1000 fun v hv=>?_
 subst hv
 simp -implicitDefEqProofs (disch:=omega) only [go_sem,↓reduceIte,reduceCtorEq,rA,rq,rL]
 repeat' (first | with_reducible refine And.intro ?_ ?_ | with_reducible intro _)
 any_goals (refine Qqk hT QlM (F.itoa d.a ha.1 ha.2) (by simp [Qf,Qc]) 1000 fun v hv=>?_; subst hv; simp -implicitDefEqProofs (disch:=omega) only [go_sem,↓reduceIte,reduceCtorEq,rq,rL,lA])
 any_goals (refine Qqk hT QkR (c_sign hT d.op ho.1 ho.2) (by simp [Qf,Qc]) 1000 fun v hv=>?_; subst hv; simp -implicitDefEqProofs (disch:=omega) only [go_sem,↓reduceIte,reduceCtorEq,rq,rL,lA])
 all_goals (simp [Nd.words, *])
end
section
attribute [local go_sem] nFq nT aZ lR Nat.mul_one Nat.succ_ne_zero zA zL Option.getD_none Option.getD_some Option.isSome_none Option.isSome_some decide_false decide_true gt_iff_lt Q3 Zp QJf QJe Qu3 Qu2 Qu1 Qu0 QuZ QuY QJd QJc QJb QJa QI9 QI8 QI7 QI6 ZE zq7_0 zq7_1 zq7_2 zq7_3 ZD zq6_0 zq6_1 zq6_2 zq6_3
def QfX:Nat→List Nd→List (V × V)
 | _,[]=>[]
 | k,d::l=>(.agg d.cells,.int .i64 k)::QfX (k+1) l
def idx (d:Nd):List Nd→Option Nat
 | []=>none
 | e::l=>if d=e then some 0 else (idx d l).map (·+1)
abbrev k6:List Kd:=[.i,.i,.i,.i,.i,.i]
theorem wrap_i64 {x:Int} (h1:-9223372036854775808≤x) (h2:x≤9223372036854775807):IntKind.i64.wrap x=x:=by
 unfold IntKind.wrap
 simp [IntKind.bits,IntKind.signed]
 omega
theorem Qlk (d e:Nd):Qdc k6 (.agg d.cells) (.agg e.cells)=decide (d=e):=by
 cases d; cases e
 simp [Qdc,Nd.cells,V.cells,Qbo,QnM]
 grind
theorem QmD (d e:Nd):(Qbo k6 (V.agg d.cells).cells (V.agg e.cells).cells).isSome=true:=by
 simp [Nd.cells,V.cells,Qbo,QnM]
theorem Qtv:∀ (k:Nat) (l:List Nd) (p:V × V),p∈QfX k l→∃ d,p.1=.agg (Nd.cells d)
 | _,[],p,h=>by simp [QfX] at h
 | k,d::l,p,h=>by
   simp only [QfX,List.mem_cons] at h
   rcases h with h | h
   ·exact ⟨d,by rw [h]⟩
   ·exact Qtv (k+1) l p h
theorem Qrm (d:Nd) (k:Nat) (l:List Nd):Qcd true k6 (.agg d.cells) (QfX k l):=by
 refine ⟨⟨rfl,QmD d d⟩,fun p hp=>?_⟩
 obtain ⟨e,he⟩:=Qtv k l p hp
 rw [he]
 exact ⟨rfl,QmD d e⟩
theorem Qpd (d:Nd):∀ (k:Nat) (l:List Nd),Qku k6 (.agg d.cells) (QfX k l)=(idx d l).map fun i=>V.int .i64 ((k+i:Nat):Int)
 | k,[]=>rfl
 | k,e::l=>by
   have ih:=Qpd d (k+1) l
   unfold Qku at ih ⊢
   simp only [QfX,idx,List.find?_cons,Qlk]
   by_cases h:d=e
   ·simp [h]
   ·simp only [h,decide_false,if_false]
    rw [ih]
    cases idx d l <;> simp; omega
theorem Qlc (d:Nd):∀ (k:Nat) (l:List Nd),Qf2 k6 (.agg d.cells) (QfX k l)=idx d l
 | k,[]=>rfl
 | k,e::l=>by
   simp only [QfX,idx,Qf2,Qlk,Qlc d (k+1) l]
   by_cases h:d=e <;> simp [h]
theorem QdG:∀ (k:Nat) (l:List Nd),(QfX k l).length=l.length
 | _,[]=>rfl
 | k,d::l=>by simp [QfX,QdG (k+1) l]
theorem Qls:∀ (k:Nat) (l:List Nd) (d:Nd),QfX k (l++[d])=QfX k l++[(.agg d.cells,.int .i64 ((k+l.length:Nat):Int))]
 | k,[],d=>by simp [QfX]
 | k,e::l,d=>by simp [QfX,Qls (k+1) l d]; omega
theorem Qx5 (L:List Nd) (d:Nd) (h:idx d L=none):L.length<(Qpe k6 (.agg d.cells) (.int .i64 0) (QfX 0 L)).length ∧
 (Qpe k6 (.agg d.cells) (.int .i64 0) (QfX 0 L)).modify L.length (fun p=>(p.1,.int .i64 (L.length:Nat)))=QfX 0 (L++[d]):=by
 have e1:Qpe k6 (.agg d.cells) (.int .i64 0) (QfX 0 L)=QfX 0 L++[(.agg d.cells,.int .i64 0)]:=by
  unfold Qpe
  rw [Qlc,h]
  rfl
 rw [e1,Qls]
 refine ⟨by simp [QdG],?_⟩
 have:∀ (a:List (V × V)) (b:V × V) (f:V × V→V × V),(a++[b]).modify a.length f=a++[f b]:=fun a b f=>by
  induction a with
  | nil=>rfl
  | cons x a ih=>simpa using ih
 have h2:=this (QfX 0 L) (.agg d.cells,.int .i64 0) (fun p=>(p.1,.int .i64 (L.length:Nat)))
 rw [QdG] at h2
 rw [h2]
 simp
def ndC (l:List Nd):List V:=(l.map Nd.cells).flatten
theorem QiH (l:List Nd):(ndC l).length=l.length * 6:=by
 induction l with
 | nil=>rfl
 | cons d l ih=>simp [ndC] at ih ⊢; simp [Nd.cells]; omega
def gH (v0 v1 v2 v3 v4:Nat) (L:List Nd) (D N:List Int):List (Option Ob) :=
 [gS v0 v1 v2 v3 v4 L.length,some (.map v1 (QfX 0 L)),some (.arr v2 39 (ndC L)),some (.arr v3 3 (D.map (V.int .i64))),some (.arr v4 3 (N.map (V.int .i64)))]
variable {base v0 v1 v2 v3 v4 t:Nat}
theorem c_Size (hT:Qe P tab) {o:List (Option Ob)} {len:Nat} :
 C P G base Y3 [.ptr 0 v0 0] ⟨t,gS v0 v1 v2 v3 v4 len::o⟩ fun v σ=>v=.int .i64 len∧σ=⟨t,gS v0 v1 v2 v3 v4 len::o⟩:=by
 refine Qo hT QB (by simp [ZD]) (Qm 1000 ?_)
 simp -implicitDefEqProofs (disch:=omega) only [go_sem,↓reduceIte,reduceCtorEq,rA,rq,rL,gS]
def zeroNd:Nd:=⟨0,0,0,0,0,0⟩
theorem Qxg {l:List Nd} {i:Nat} {d:Nd} (h:l[i]?=some d):((ndC l).drop (i * 6)).take 6=d.cells:=by
 induction l generalizing i with
 | nil=>simp at h
 | cons e l ih =>
   cases i with
   | zero=>simp at h; subst h; simp [ndC,Nd.cells]
   | succ i =>
     have:=ih (i:=i) (by simpa using h)
     have e1:ndC (e::l)=e.cells++ndC l:=by simp [ndC]
     have e2:(i+1) * 6=e.cells.length+i * 6:=by simp [Nd.cells]; omega
     rw [e1,e2,← List.drop_drop,List.drop_left]
     exact this
theorem c_Node (hT:Qe P tab) {L:List Nd} {D N:List Int} {id:Int} (hb:base≤5) :
 C P G base X1 [.ptr 0 v0 0,.int .i64 id] ⟨t,gH v0 v1 v2 v3 v4 L D N⟩ fun v σ=>v=(if 0≤id∧id<L.length then .tup [.agg (L.getD id.toNat zeroNd).cells,.bool true] else .tup [.agg zeroNd.cells,.bool false])∧∃ t',t≤t'∧σ=⟨t',gH v0 v1 v2 v3 v4 L D N⟩:=by
 refine Qj 5 hb (Qo hT XE (by simp [ZE]) (Qm 1000 ?_))
 simp -implicitDefEqProofs (disch:=omega) only [go_sem,↓reduceIte,reduceCtorEq,rA,rq,gH,gS]
 refine call hT ZG (c_is hT) 1000 fun v σ hv=>?_
 obtain ⟨rfl,rfl⟩:=hv
 by_cases h:0≤id∧id<L.length
 ·obtain ⟨d,hd⟩:∃ d,L[id.toNat]?=some d:=⟨_,List.getElem?_eq_getElem (by omega)⟩
  have hl:=QiH L
  have hc:=Qxg hd
  have hlen:id.toNat<L.length:=by omega
  have h6:id.toNat * 6+6≤(ndC L).length:=by omega
  have hgd:L.getD id.toNat zeroNd=d:=by simp [List.getD_eq_getElem?_getD,hd]
  simp -implicitDefEqProofs (disch:=omega) only [go_sem,↓reduceIte,reduceCtorEq,rA,rq,rL,gS,h,hc,hlen,h6,hgd,Nd.cells]
  exact ⟨_,by omega,rfl⟩
 ·simp -implicitDefEqProofs (disch:=omega) only [go_sem,↓reduceIte,reduceCtorEq,rA,rq,rL,gS,h,Nd.cells,zeroNd]
  exact ⟨_,by omega,rfl⟩
theorem Qbi (L:List Nd):Qc (ndC L)=true:=by
 induction L with
 | nil=>rfl
 | cons d l ih=>simp [ndC,Nd.cells,Qc,Qf] at ih ⊢; exact ih
theorem XR (D:List Int):Qc (D.map (V.int .i64))=true:=by
 induction D with
 | nil=>rfl
 | cons d l ih=>simp [Qc,Qf,ih]
theorem QfW (n:Nat):∀ (k:Nat) (L:List Nd),(QfX k L).all (fun p=>V.under n p.2)=true
 | _,[]=>rfl
 | k,d::l=>by simp only [QfX,List.all_cons,QfW n (k+1) l,Bool.and_true]; rfl
theorem QIl (v0 v1 v2 v3 v4:Nat) (L:List Nd) (D N:List Int):Qd6 5 (gH v0 v1 v2 v3 v4 L D N)=true:=by
 simp [gH,gS,Qd6,Ob.under,QU,V.under,Ql _ (Qbi L),Ql _ (XR D),Ql _ (XR N),-List.all_eq_true,QfW]
def addN (L:List Nd) (d:Nd):Int × List Nd :=
 if d.may L.length then (match idx d L with | some i=>((i:Int),L) | none=>((L.length:Int),L++[d])) else (-1,L)
end
section
attribute [local go_sem] nFq nT aZ lR Nat.mul_one zA Option.getD_none Option.getD_some decide_false decide_true gt_iff_lt Q3 YK QEn QEm QEl QEk QEj QEi QEh QEg
def gwf (L:List Nd):Prop:=∀ (i:Nat) (d:Nd),L[i]?=some d→∀ p∈d.parts,0≤p∧p<i
def ZV (L:List Nd):Nat→Int→List Int→List Int
 | 0,_,S=>S
 | f+1,id,S=>if 0≤id∧id<L.length∧id ∉ S then (L.getD id.toNat zeroNd).parts.foldl (fun S p=>ZV L f p S) (S++[id]) else S
def okS (L:List Nd) (S:List Int):Prop:=S.Nodup∧∀ x∈S,0≤x∧x<L.length
variable {S:List Int} {L:List Nd}
theorem Qxa (h:okS L S):S.length≤L.length:=QeV _ _ h.1 h.2
theorem Qxb {id:Int} (h:okS L S) (h0:0≤id) (h1:id<L.length) (h2:id ∉ S):okS L (S++[id]):=by
 refine ⟨?_,fun x hx=>?_⟩
 ·rw [List.nodup_append]
  exact ⟨h.1,by simp,fun a ha b hb=>by simp at hb; subst hb; exact fun e=>h2 (e▸ha)⟩
 ·simp only [List.mem_append,List.mem_singleton] at hx
  rcases hx with hx | rfl
  ·exact h.2 x hx
  ·exact ⟨h0,h1⟩
theorem Qkm (L:List Nd):∀ (f:Nat) (id:Int) (S:List Int),okS L S→okS L (ZV L f id S)
 | 0,_,_,h=>h
 | f+1,id,S,h=>by
   simp only [ZV]
   split
   ·rename_i hc
    have:∀ (l:List Int) (S:List Int),okS L S→okS L (l.foldl (fun S p=>ZV L f p S) S):=fun l=>by
     induction l with
     | nil=>intro S h; exact h
     | cons p l ih=>intro S h; exact ih _ (Qkm L f p S h)
    exact this _ _ (Qxb h hc.1 hc.2.1 hc.2.2)
   ·exact h
def one1:Int→V:=fun _=>.int .i64 1
def wFn (b0 c0 o0 f0:Nat):V:=.fn (.func Z8) [] [.ptr 5 b0 0,.ptr 7 c0 0,.ptr 8 o0 0,.ptr 9 f0 0]
def uH (v0 v1 v2 v3 v4 b0 s0 c0 o0 f0 r0:Nat) (L:List Nd) (D N S:List Int):List (Option Ob) :=
 [gS v0 v1 v2 v3 v4 L.length,some (.map v1 (QfX 0 L)),some (.arr v2 39 (ndC L)),some (.arr v3 3 (D.map (V.int .i64))),some (.arr v4 3 (N.map (V.int .i64))),
  some (.arr b0 29 [.ptr 0 v0 0]),some (.map s0 (im .i64 one1 S)),some (.arr c0 136 [.mp 6 s0]),some (.arr o0 30 [.sl 10 r0 0 1 S.length none]),some (.arr f0 137 [wFn b0 c0 o0 f0]),some (.arr r0 37 (S.map (V.int .i64)))]
theorem c_walk (hT:Qe P tab) {base:Nat} (hb:base≤5) {v0 v1 v2 v3 v4 b0 s0 c0 o0 f0:Nat} {D N:List Int} (hL:L.length≤1000000) (hwf:gwf L):∀ (f:Nat) (id:Int) (S:List Int) (t r0:Nat),id.toNat<f→okS L S →
 C P G base Z8 [.int .i64 id,.ptr 5 b0 0,.ptr 7 c0 0,.ptr 8 o0 0,.ptr 9 f0 0] ⟨t,uH v0 v1 v2 v3 v4 b0 s0 c0 o0 f0 r0 L D N S⟩ fun v σ=>∃ t' r0',t≤t'∧σ=⟨t',uH v0 v1 v2 v3 v4 b0 s0 c0 o0 f0 r0' L D N (ZV L f id S)⟩:=by
 intro f
 induction f with
 | zero=>intro id S t r0 h; omega
 | succ f ih =>
   intro id S t r0 hf hS
   have hSl:=Qxa hS
   have hkk:=Qh5 .i64 one1 S id
   have hkm:=Qrk .i64 one1 id S
   refine Qo hT Z7 (by simp [YK]) (Qm 1000 ?_)
   simp -implicitDefEqProofs (disch:=omega) only [go_sem,↓reduceIte,reduceCtorEq,rA,rq,uH,gS]
   refine call hT ZG (c_is hT) 1000 fun v σ hv=>?_
   obtain ⟨rfl,rfl⟩:=hv
   by_cases hin:0≤id∧id<L.length
   ·by_cases hid:id∈S
    ·rw [if_pos hid] at hkm
     simp -implicitDefEqProofs (disch:=omega) only [go_sem,↓reduceIte,reduceCtorEq,rA,rq,Int.reduceLT,gS,hin,hkk,hkm,one1]
     exact ⟨t,r0,by omega,by simp [ZV,hid]⟩
    ·rw [if_neg hid] at hkm
     have hmp:=Qrj .i64 one1 id (.int .i64 1) rfl S hid
     obtain ⟨d,hd⟩:∃ d,L[id.toNat]?=some d:=⟨_,List.getElem?_eq_getElem (by omega)⟩
     have hl:=QiH L
     have hc:=Qxg hd
     have hlen:id.toNat<L.length:=by omega
     have h6:id.toNat * 6+6≤(ndC L).length:=by omega
     have hgd:L.getD id.toNat zeroNd=d:=by simp [List.getD_eq_getElem?_getD,hd]
     simp -implicitDefEqProofs (disch:=omega) only [go_sem,↓reduceIte,reduceCtorEq,rA,rq,rL,Int.reduceLT,gS,hin,hkk,hkm,hmp,hc,hlen,h6,lM,Nd.cells,show base≤6 from by omega,show base≤8 from by omega,show base≤10 from by omega]
     refine Qqk hT QeN (Qym hT d) rfl 1000 fun v hv=>?_
     obtain ⟨z,rfl,hz⟩:=hv
     simp -implicitDefEqProofs (disch:=omega) only [go_sem,↓reduceIte,reduceCtorEq,rq,lM]
     have hS1:=Qxb hS hin.1 hin.2 hid
     have hdp:∀ p∈d.parts,0≤p∧p<id.toNat:=hwf _ d hd
     refine Zv (fun m fr σ=>∃ (i t' r':Nat) (S':List Int),i≤d.parts.length∧m=d.parts.length - i∧okS L S'∧S'=(d.parts.take i).foldl (fun S p=>ZV L f p S) (S++[id])∧t≤t'∧Qd fr 1=.ptr 5 b0 0∧Qd fr 2=.ptr 7 c0 0∧Qd fr 3=.ptr 8 o0 0∧Qd fr 4=.ptr 9 f0 0 ∧
      Qd fr 31=.lst z (d.parts.map (V.int .i64)) true∧Qd fr 32=.int .i64 d.parts.length∧Qd fr 33=.int .i64 i∧σ=⟨t',uH v0 v1 v2 v3 v4 b0 s0 c0 o0 f0 r' L D N S'⟩)
      (fun e fr σ=>e=.ex 0∧∃ t' r',t≤t'∧σ=⟨t',uH v0 v1 v2 v3 v4 b0 s0 c0 o0 f0 r' L D N (ZV L (f+1) id S)⟩)
      (m0:=d.parts.length) ⟨0,t+1,t,S++[id],zL _,rfl,hS1,rfl,by omega,?_⟩ (fun m fr σ hJ=>?_) (fun e fr σ hE=>?_)
     ·simp -implicitDefEqProofs (disch:=omega) only [go_sem,↓reduceIte,reduceCtorEq,rq]
      simp [uH,gS,wFn]
     ·obtain ⟨i,t',r',S',hi,rfl,hS',hS'e,ht',f1,f2,f3,f4,f31,f32,f33,rfl⟩:=hJ
      refine Qm 1000 ?_
      rcases Nat.lt_or_ge i d.parts.length with hlt | hge
      ·have hz1:z=1:=by rcases hz with h | h; exact h; rw [h] at hlt; simp at hlt
       subst hz1
       obtain ⟨p,hp⟩:∃ p,d.parts[i]?=some p:=⟨_,List.getElem?_eq_getElem hlt⟩
       obtain ⟨hp0,hp1⟩:=hdp p (List.mem_of_getElem? hp)
       have hg:(d.parts.map (V.int .i64)).getD i .any=V.int .i64 p:=by simp [List.getD_eq_getElem?_getD,hp]
       simp -implicitDefEqProofs (disch:=omega) only [go_sem,↓reduceIte,rq,uH,gS,lM,f4,f31,f32,f33,hlt,hg,wFn]
       refine callK hT Z7 (ih p S' t' r' (by omega) hS') 1000 fun v σ hv=>?_
       obtain ⟨t2,r2,ht2,rfl⟩:=hv
       simp -implicitDefEqProofs (disch:=omega) only [go_sem,↓reduceIte,rq,f33]
       refine ⟨d.parts.length - (i+1),_,_,by omega,Shift.refl _ _ _ _,i+1,t2,r2,ZV L f p S',hlt,rfl,Qkm L f p S' hS',?_,by omega,?_⟩
       ·rw [List.take_add_one,hp,Option.toList_some,List.foldl_append,← hS'e]; rfl
       ·have hpl:d.parts.length≤2:=by unfold Nd.parts; split <;> (try split) <;> simp
        have hw:IntKind.i64.wrap ((i:Int)+1)=((i+1:Nat):Int):=by
         rw [wrap_i64 (by omega) (by omega)]; rfl
        simp -implicitDefEqProofs (disch:=omega) only [go_sem,↓reduceIte,rq,f1,f2,f3,f4,f31,f32,hw]
        rfl
      ·simp -implicitDefEqProofs (disch:=omega) only [go_sem,↓reduceIte,f32,f33,show ¬ i<d.parts.length from by omega]
       refine ⟨t',r',ht',?_⟩
       rw [List.take_of_length_le (by omega)] at hS'e
       have:ZV L (f+1) id S=S':=by rw [ZV,if_pos ⟨hin.1,hin.2,hid⟩,hgd,hS'e]
       rw [this]; exact ⟨rfl,rfl⟩
     ·obtain ⟨rfl,t',r',ht',rfl⟩:=hE
      refine Qg 1000 ?_
      simp -implicitDefEqProofs (disch:=omega) only [go_sem,↓reduceIte]
      exact ⟨t',r',ht',rfl,rfl⟩
   ·simp -implicitDefEqProofs (disch:=omega) only [go_sem,↓reduceIte,reduceCtorEq,rq,gS,hin]
    exact ⟨t,r0,by omega,by simp [ZV]; grind⟩
end
section
attribute [local go_sem] nFq lR zA decide_false decide_true Q3 ZC QF8 QF7 Qv5 Qv4 QF6 QF5 QF4 QF3 QF2 QF1 QF0 QFZ
structure Q1 (P:Program):Prop where
 some:∀ (blk off cap:Nat) (zs:List Int) (w:World),Go.Sort.Holds (Value.int .i64) w blk off zs.toArray→blk<w.heap.size→zs.length<4611686018427387904 →
  Calls P Xw #[.slice (some ⟨blk,off,none⟩) zs.length cap] w fun e w'=>e=.returned (.tuple #[])∧∃ n os,w'=Go.Sort.grow (Go.Sort.putRow (Value.int .i64) (Go.Sort.ahead w n) blk off (zs.mergeSort fun x y=>decide (x≤y)).toArray) os
 none:∀ (p:Option Addr) (cap:Nat) (w:World),Calls P Xw #[.slice p 0 cap] w fun e w'=>e=.returned (.tuple #[])∧w'=w
variable {base t:Nat}
theorem QID (S:Q1 P) {k v T:Nat} {o:List (Option Ob)} {zs:List Int} {n:Nat} {lim:Option Nat} (hk:base≤k) (ho:o[k]?=some (some (.arr v T (zs.map (V.int .i64))))) (hn:n=zs.length) (hl:zs.length<4611686018427387904) :
 C P G base Xw [.sl k v 0 1 n lim] ⟨t,o⟩ fun r σ'=>r=.tup []∧σ'=⟨t,o.set k (some (.arr v T ((zs.mergeSort fun x y=>decide (x≤y)).map (V.int .i64))))⟩:=by
 subst hn
 cases zs with
 | nil =>
   refine (QME (fun p cap w=>S.none p cap w)).conseq fun r σ' ⟨h1,h2⟩=>⟨h1,?_⟩
   rw [h2]
   congr 1
   have hk':=(List.getElem?_eq_some_iff.1 ho).1
   have:=(List.getElem?_eq_some_iff.1 ho).2
   apply List.ext_getElem? 
   intro m
   by_cases hm:m=k
   ·subst hm; rw [ho]; simp [hk']
   ·simp [List.getElem?_set_ne (Ne.symm hm)]
 | cons z zs=>exact C_sort hk ho (by simp) (by simp) fun blk off cap w hH hb=>S.some blk off cap _ w hH hb hl
def walks (L:List Nd) (roots:List Int) (S:List Int):List Int:=roots.foldl (fun S r=>ZV L (r.toNat+1) r S) S
def XP (L:List Nd) (roots:List Int):List Int:=(walks L roots []).mergeSort fun x y=>decide (x≤y)
theorem QhV (L:List Nd):∀ (roots S:List Int),okS L S→okS L (walks L roots S)
 | [],S,h=>h
 | r::roots,S,h=>QhV L roots _ (Qkm L _ r S h)
theorem c_Uses (hT:Qe P tab) (SO:Q1 P) (hb:base≤5) {v0 v1 v2 v3 v4:Nat} {L:List Nd} {D N:List Int} (hL:L.length≤1000000) (hwf:gwf L) (roots:List Int) (z:Nat) (tight:Bool) (hz:z=1∨roots=[]) (hrl:roots.length≤9223372036854775806) :
 C P G base Y2 [.ptr 0 v0 0,.lst z (roots.map (V.int .i64)) tight] ⟨t,gH v0 v1 v2 v3 v4 L D N⟩ fun v σ=>v=.lst 1 ((XP L roots).map (V.int .i64)) false∧∃ t',t≤t'∧σ=⟨t',gH v0 v1 v2 v3 v4 L D N⟩:=by
 refine C.wk hb (lR _) (Qj 5 (lR _) (QBd (Q:=fun v σ=>∃ (r n t':Nat) (x5 x6 x7 x8 x9:Option Ob),n=(XP L roots).length∧t≤t'∧v=.sl 10 r 0 1 n none∧σ=⟨t',gH v0 v1 v2 v3 v4 L D N++[x5,x6,x7,x8,x9,some (.arr r 37 ((XP L roots).map (V.int .i64)))]⟩) ?_ fun v σ hv=>?_))
 ·refine Qo hT Qa4 (by simp [ZC]) (Qm 1000 ?_)
  simp -implicitDefEqProofs (disch:=omega) only [go_sem,↓reduceIte,reduceCtorEq,rA,rq,rL,gH,gS,lM,lN,nA,lC,cA,show (Value.map none).oneCell'=true from rfl,show Value.nilFunc.oneCell'=true from rfl]
  refine QX (HShift.shift (HShift.ownAt 1 37 (k:=8) (p:=0) (by omega) rfl rfl)) (Qg 1000 ?_)
  simp -implicitDefEqProofs (disch:=omega) only [go_sem,rA,lN,nA,lC,cA]
  refine Zv (fun m fr σ=>∃ (i t' r':Nat) (S:List Int),i≤roots.length∧m=roots.length - i∧okS L S∧S=walks L (roots.take i) []∧t≤t'∧Qd fr 2=.ptr 5 t 0∧Qd fr 5=.ptr 7 (t+1+1) 0∧Qd fr 6=.ptr 8 (t+1+1+1) 0∧Qd fr 7=.ptr 9 (t+1+1+1+1) 0 ∧
   Qd fr 12=.lst z (roots.map (V.int .i64)) tight∧Qd fr 13=.int .i64 roots.length∧Qd fr 14=.int .i64 i∧σ=⟨t',uH v0 v1 v2 v3 v4 t (t+1) (t+1+1) (t+1+1+1) (t+1+1+1+1) r' L D N S⟩)
   (fun e fr σ=>e=.ex 0∧Qd fr 6=.ptr 8 (t+1+1+1) 0∧∃ t' r',t≤t'∧σ=⟨t',uH v0 v1 v2 v3 v4 t (t+1) (t+1+1) (t+1+1+1) (t+1+1+1+1) r' L D N (walks L roots [])⟩)
   (m0:=roots.length) ⟨0,t+1+1+1+1+1+1,t+1+1+1+1+1,[],zL _,rfl,⟨List.nodup_nil,by simp⟩,rfl,by omega,?_⟩ (fun m fr σ hJ=>?_) (fun e fr σ hE=>?_)
  ·simp -implicitDefEqProofs (disch:=omega) only [go_sem,↓reduceIte,reduceCtorEq,rq]
   simp [uH,gS,wFn,im]
  ·obtain ⟨i,t',r',S,hi,rfl,hS,hSe,ht',f2,f5,f6,f7,f12,f13,f14,rfl⟩:=hJ
   refine Qm 1000 ?_
   rcases Nat.lt_or_ge i roots.length with hlt | hge
   ·have hz1:z=1:=by rcases hz with h | h; exact h; rw [h] at hlt; simp at hlt
    subst hz1
    obtain ⟨p,hp⟩:∃ p,roots[i]?=some p:=⟨_,List.getElem?_eq_getElem hlt⟩
    have hg:(roots.map (V.int .i64)).getD i .any=V.int .i64 p:=by simp [List.getD_eq_getElem?_getD,hp]
    simp -implicitDefEqProofs (disch:=omega) only [go_sem,↓reduceIte,rq,uH,gS,lM,f7,f12,f13,f14,hlt,hg,wFn]
    refine callK hT Z7 (c_walk hT (lR 5) hL hwf (p.toNat+1) p S t' r' (by omega) hS) 1000 fun v σ hv=>?_
    obtain ⟨t2,r2,ht2,rfl⟩:=hv
    simp -implicitDefEqProofs (disch:=omega) only [go_sem,↓reduceIte,rq,f14]
    refine ⟨roots.length - (i+1),_,_,by omega,Shift.refl _ _ _ _,i+1,t2,r2,ZV L (p.toNat+1) p S,hlt,rfl,Qkm L _ p S hS,?_,by omega,?_⟩
    ·rw [List.take_add_one,hp,Option.toList_some,walks,List.foldl_append,hSe]; rfl
    ·have hw:IntKind.i64.wrap ((i:Int)+1)=((i+1:Nat):Int):=by
      rw [wrap_i64 (by omega) (by omega)]; rfl
     simp -implicitDefEqProofs (disch:=omega) only [go_sem,↓reduceIte,rq,f2,f5,f6,f7,f12,f13,hw]
     rfl
   ·simp -implicitDefEqProofs (disch:=omega) only [go_sem,↓reduceIte,rq,f6,f13,f14,show ¬ i<roots.length from by omega]
    rw [List.take_of_length_le (by omega)] at hSe
    exact ⟨t',r',ht',rfl,by rw [hSe]⟩
  ·obtain ⟨rfl,f6,t',r',ht',rfl⟩:=hE
   have hSw:=Qxa (QhV L roots [] ⟨List.nodup_nil,by simp⟩)
   refine Qg 1000 ?_
   simp -implicitDefEqProofs (disch:=omega) only [go_sem,↓reduceIte,uH,gS,f6]
   refine call hT Zj (QID SO (k:=10) (T:=37) (zs:=walks L roots []) (by omega) rfl rfl (by omega)) 1000 fun v σ hv=>?_
   obtain ⟨rfl,rfl⟩:=hv
   simp -implicitDefEqProofs (disch:=omega) only [go_sem,↓reduceIte,rq,f6]
   exact ⟨r',_,t',_,_,_,_,_,rfl,ht',by simp [XP],rfl,rfl⟩
 ·obtain ⟨r,n,t',x5,x6,x7,x8,x9,rfl,ht',rfl,rfl⟩:=hv
  refine ⟨10,r,37,(XP L roots).map (V.int .i64),by omega,rfl,XR _,?_⟩
  refine ⟨by simp [QW,gH],?_,t',ht',?_⟩
  ·simp only [Zw,QjU]
   simp [List.take_of_length_le]
  ·simp [gH,Q6]
end
section
attribute [local go_sem] nFq nT aZ lR Nat.mul_one Nat.succ_ne_zero zA zL Option.getD_none Option.getD_some Option.isSome_none Option.isSome_some decide_false decide_true gt_iff_lt Q3 Zp QJf QJe Qu3 Qu2 Qu1 Qu0 QuZ QuY QJd QJc QJb QJa QI9 QI8 QI7 QI6
def QlX (D:List Int) (ps:List Int):Int:=ps.foldl (fun m p=>max m (D.getD p.toNat 0)) 0
def QAF (D:List Int) (d:Nd):Int:=QlX D d.parts+1
def Qj4 (L:List Nd):List Int:=L.foldl (fun D d=>D++[QAF D d]) []
theorem Qlw (L:List Nd) (d:Nd):Qj4 (L++[d])=Qj4 L++[QAF (Qj4 L) d]:=by simp [Qj4,List.foldl_append]
def QiO (N:List Int) (ps:List Int) (b:Int):Int:=ps.foldl (fun m p=>m+N.getD p.toNat 0) b
def QzZ (fmt:Int→List UInt8) (N:List Int) (d:Nd):Int:=if 65537<QiO N d.parts ((d.words fmt [] []).length:Int) then 65537 else QiO N d.parts ((d.words fmt [] []).length:Int)
def QjZ (fmt:Int→List UInt8) (L:List Nd):List Int:=L.foldl (fun N d=>N++[QzZ fmt N d]) []
theorem Qlf (fmt:Int→List UInt8) (L:List Nd) (d:Nd):QjZ fmt (L++[d])=QjZ fmt L++[QzZ fmt (QjZ fmt L) d]:=by simp [QjZ,List.foldl_append]
theorem Qkj {α:Type} {p:List α→Prop} (h0:p []) (h1:∀ l a,p l→p (l++[a])) (l:List α):p l:=by
 have:∀ r:List α,p r.reverse:=fun r=>by
  induction r with
  | nil=>exact h0
  | cons a r ih=>rw [List.reverse_cons]; exact h1 _ _ ih
 simpa using this l.reverse
theorem QpW (L:List Nd):(Qj4 L).length=L.length:=by
 refine Qkj (p:=fun L=>(Qj4 L).length=L.length) rfl (fun l a h=>?_) L
 rw [Qlw]; simp [h]
theorem Qpk (fmt:Int→List UInt8) (L:List Nd):(QjZ fmt L).length=L.length:=by
 refine Qkj (p:=fun L=>(QjZ fmt L).length=L.length) rfl (fun l a h=>?_) L
 rw [Qlf]; simp [h]
theorem Qnt {D:List Int} {b:Int} (hD:∀ x∈D,0≤x∧x≤b) (h0:0≤b) (ps:List Int):0≤QlX D ps∧QlX D ps≤b:=by
 have:∀ (ps:List Int) (m:Int),0≤m∧m≤b→0≤ps.foldl (fun m p=>max m (D.getD p.toNat 0)) m∧ps.foldl (fun m p=>max m (D.getD p.toNat 0)) m≤b:=fun ps=>by
  induction ps with
  | nil=>intro m h; exact h
  | cons p ps ih =>
    intro m h
    refine ih _ ?_
    have:0≤D.getD p.toNat 0∧D.getD p.toNat 0≤b:=by
     rw [List.getD_eq_getElem?_getD]
     cases hx:D[p.toNat]? with
     | none=>simp; exact h0
     | some x=>simpa using hD x (List.mem_of_getElem? hx)
    show 0≤max m (D.getD p.toNat 0)∧max m (D.getD p.toNat 0)≤b
    omega
 exact this ps 0 ⟨Int.le_refl _,h0⟩
theorem QAE (L:List Nd):∀ x∈Qj4 L,0≤x∧x≤L.length:=by
 refine Qkj (p:=fun L=>∀ x∈Qj4 L,0≤x∧x≤L.length) (by simp [Qj4]) (fun l a h=>?_) L
 rw [Qlw]
 intro x hx
 simp only [List.mem_append,List.mem_singleton] at hx
 rcases hx with hx | rfl
 ·have:=h x hx; simp; omega
 ·have:=Qnt (b:=l.length) h (by omega) a.parts
  simp [QAF]; omega
theorem Qtc {N:List Int} (hN:∀ x∈N,0≤x∧x≤65537) (ps:List Int) (b:Int) (hb:0≤b):0≤QiO N ps b∧QiO N ps b≤b+65537 * ps.length:=by
 induction ps generalizing b with
 | nil=>simp [QiO]; exact hb
 | cons p ps ih =>
   have:0≤N.getD p.toNat 0∧N.getD p.toNat 0≤65537:=by
    rw [List.getD_eq_getElem?_getD]
    cases hx:N[p.toNat]? with
    | none=>simp
    | some x=>simpa using hN x (List.mem_of_getElem? hx)
   have h2:=ih (b+N.getD p.toNat 0) (by omega)
   simp only [QiO,List.foldl_cons,lC] at h2 ⊢
   omega
theorem QzY (fmt:Int→List UInt8) (L:List Nd):∀ x∈QjZ fmt L,0≤x∧x≤65537:=by
 refine Qkj (p:=fun L=>∀ x∈QjZ fmt L,0≤x∧x≤65537) (by simp [QjZ]) (fun l a h=>?_) L
 rw [Qlf]
 intro x hx
 simp only [List.mem_append,List.mem_singleton] at hx
 rcases hx with hx | rfl
 ·exact h x hx
 ·have:=Qtc h a.parts ((a.words fmt [] []).length:Int) (by omega)
  unfold QzZ
  split <;> omega
theorem Qzs {o:Int} (ho:0≤o∧o≤16):(signs.getD o.toNat []).length≤3:=by
 have:o=0∨o=1∨o=2∨o=3∨o=4∨o=5∨o=6∨o=7∨o=8∨o=9∨o=10∨o=11∨o=12∨o=13∨o=14∨o=15∨o=16:=by omega
 rcases this with h | h | h | h | h | h | h | h | h | h | h | h | h | h | h | h | h <;> rw [h] <;> decide
theorem Qze (F:Fmt P G) (d:Nd) (x y:List UInt8) (ho:0≤d.op∧d.op≤16):(d.words F.fmt x y).length≤x.length+y.length+60:=by
 have l1:=F.le d.n
 have l2:=F.le d.a
 have l3:=Qzs ho
 unfold Nd.words
 split
 ·omega
 ·split
  ·simp only [lA,lC,lN]; omega
  ·split
   ·simp only [lA,lC,lN]; omega
   ·simp only [lA,lC,lN]; omega
def gG (fmt:Int→List UInt8) (v0 v1 v2 v3 v4:Nat) (L:List Nd):List (Option Ob):=gH v0 v1 v2 v3 v4 L (Qj4 L) (QjZ fmt L)
theorem c_AddG (hT:Qe P tab) (F:Fmt P G) {v0 v1 v2 v3 v4 t:Nat} {L:List Nd} (d:Nd) (hL:L.length≤1000000) (hn:i64 d.n) (ha:i64 d.a) :
 C P G 0 Qbt [.ptr 0 v0 0,.agg d.cells] ⟨t,gG F.fmt v0 v1 v2 v3 v4 L⟩ fun v σ=>v=.int .i64 (addN L d).1∧∃ t' v2' v3' v4',t≤t'∧σ=⟨t',gG F.fmt v0 v1 v2' v3' v4' (addN L d).2⟩:=by
 have hD:=QpW L
 have hN:=Qpk F.fmt L
 have hDb:=QAE L
 have hNb:=QzY F.fmt L
 have hDD:=Qlw L d
 have hNN:=Qlf F.fmt L d
 unfold gG
 generalize hDe:Qj4 L=D at hD hDb hDD ⊢
 generalize hNe:QjZ F.fmt L=N at hN hNb hNN ⊢
 have hkm:=Qpd d 0 L
 have hki:=Qlc d 0 L
 have hkk:=Qrm d 0 L
 have hkl:=QdG 0 L
 refine Qj 5 (zL _) (Qo hT Qd9 (by simp [Zp]) (Qm 1000 ?_))
 simp -implicitDefEqProofs (disch:=omega) only [go_sem,↓reduceIte,reduceCtorEq,rA,rq,gH,gS,Nd.cells]
 refine callE (ex:=_) hT Qd8 (c_may (o1:=_) (o2:=_) (o3:=_) (o4:=_) hT d (zL _)) rfl (QIl ..) (zL _) rfl 1000 fun v σ hv=>?_
 obtain ⟨rfl,t1,ht1,rfl⟩:=hv
 refine ⟨rfl,QIl ..,rfl,?_⟩
 simp only at ht1
 cases hmay:d.may L.length
 ·simp -implicitDefEqProofs (disch:=omega) only [go_sem,↓reduceIte,reduceCtorEq,rA,rq,rL,gS]
  have e1:addN L d=(-1,L):=by simp [addN,hmay]
  rw [e1]
  simp only [hDe,hNe]
  exact ⟨trivial,_,_,_,_,by omega,⟨rfl,rfl⟩⟩
 ·simp only [Nd.cells] at hkm hki hkk
  cases hidx:idx d L with
  | some i =>
    simp -implicitDefEqProofs (disch:=omega) only [go_sem,↓reduceIte,reduceCtorEq,rA,rq,rL,rT,gS,hkm,hkk,hidx]
    have e1:addN L d=((i:Int),L):=by simp [addN,hmay,hidx]
    rw [e1]
    simp only [hDe,hNe]
    exact ⟨trivial,_,_,_,_,by omega,⟨rfl,rfl⟩⟩
  | none =>
    simp -implicitDefEqProofs (disch:=omega) only [go_sem,↓reduceIte,reduceCtorEq,rA,rq,rL,rT,gS,hkm,hkk,hidx]
    have hop:0≤d.op∧d.op≤16:=by simp only [Nd.may] at hmay; grind
    refine Qqk hT QjC (QL6 hT F d [] [] hn ha hop (by simp) (by simp)) rfl 1000 fun v hv=>?_
    subst hv
    simp -implicitDefEqProofs (disch:=omega) only [go_sem,↓reduceIte,reduceCtorEq,rA,rq]
    refine Qqk hT QeN (Qym hT d) rfl 1000 fun v hv=>?_
    obtain ⟨z,rfl,hz⟩:=hv
    simp -implicitDefEqProofs (disch:=omega) only [go_sem,↓reduceIte,reduceCtorEq,rq,lM]
    have hpp:∀ p∈d.parts,0≤p∧p<L.length:=by simp only [Nd.may] at hmay; simp only [Nd.parts]; grind
    refine QKJ (fun m fr σ=>∃ i:Nat,i≤d.parts.length∧m=d.parts.length - i∧Qd fr 0=.ptr 0 v0 0∧Qd fr 3=.ptr 5 t 0∧Qd fr 7=.int .i64 L.length∧Qd fr 8=.int .i64 (QlX D (d.parts.take i))∧Qd fr 9=.int .i64 (QiO N (d.parts.take i) ((d.words F.fmt [] []).length:Int)) ∧
     Qd fr 40=.lst z (d.parts.map (V.int .i64)) true∧Qd fr 41=.int .i64 d.parts.length∧Qd fr 42=.int .i64 i∧σ=⟨t1,gH v0 v1 v2 v3 v4 L D N++[some (.arr t 39 d.cells)]⟩) (fun m fr σ hJ=>?_) (m0:=d.parts.length) ⟨0,zL _,rfl,?_⟩
    ·obtain ⟨i,hi,rfl,f0,f3,f7,f8,f9,f40,f41,f42,rfl⟩:=hJ
     refine Qm 1000 ?_
     rcases Nat.lt_or_ge i d.parts.length with hlt | hge
     ·have hz1:z=1:=by rcases hz with h | h; exact h; rw [h] at hlt; simp at hlt
      subst hz1
      obtain ⟨p,hp⟩:∃ p,d.parts[i]?=some p:=⟨_,List.getElem?_eq_getElem hlt⟩
      obtain ⟨hp0,hp1⟩:=hpp p (List.mem_of_getElem? hp)
      have hg:(d.parts.map (V.int .i64)).getD i .any=V.int .i64 p:=by simp [List.getD_eq_getElem?_getD,hp]
      have hp2:p.toNat<L.length:=by omega
      obtain ⟨x,hx⟩:∃ x,D[p.toNat]?=some x:=⟨_,List.getElem?_eq_getElem (by omega)⟩
      obtain ⟨y,hy⟩:∃ y,N[p.toNat]?=some y:=⟨_,List.getElem?_eq_getElem (by omega)⟩
      have hgD:(D.map (V.int .i64)).getD p.toNat .any=V.int .i64 x:=by simp [List.getD_eq_getElem?_getD,hx]
      have hgN:(N.map (V.int .i64)).getD p.toNat .any=V.int .i64 y:=by simp [List.getD_eq_getElem?_getD,hy]
      simp -implicitDefEqProofs (disch:=omega) only [go_sem,↓reduceIte,reduceCtorEq,rA,rq,rL,gH,gS,Nd.cells,lM,f0,f8,f9,f40,f41,f42,hlt,hg,hp0,hp2,hgD,hgN]
      refine ⟨d.parts.length - (i+1),_,_,by omega,Shift.refl _ _ _ _,i+1,hlt,rfl,?_⟩
      simp -implicitDefEqProofs (disch:=omega) only [go_sem,↓reduceIte,reduceCtorEq,rq,f0,f3,f7,f40,f41]
      have hpl:d.parts.length≤2:=by unfold Nd.parts; split <;> (try split) <;> simp
      have hw:IntKind.i64.wrap ((i:Int)+1)=((i+1:Nat):Int):=by
       rw [wrap_i64 (by omega) (by omega)]; rfl
      have hpl2:(d.parts.take i).length≤2:=by rw [List.length_take]; omega
      have hA:=Qnt hDb (by omega) (d.parts.take i)
      have hB:=Qtc hNb (d.parts.take i) ((d.words F.fmt [] []).length:Int) (by omega)
      have hxb:=hDb x (List.mem_of_getElem? hx)
      have hyb:=hNb y (List.mem_of_getElem? hy)
      have eA:QlX D (d.parts.take (i+1))=max (QlX D (d.parts.take i)) x:=by
       rw [List.take_add_one,hp,Option.toList_some,QlX,List.foldl_append]; simp [QlX,List.getD_eq_getElem?_getD,hx]
      have eB:QiO N (d.parts.take (i+1)) ((d.words F.fmt [] []).length:Int)=QiO N (d.parts.take i) ((d.words F.fmt [] []).length:Int)+y:=by
       rw [List.take_add_one,hp,Option.toList_some,QiO,List.foldl_append]; simp [QiO,List.getD_eq_getElem?_getD,hy]
      have hwl:=Qze F d [] [] hop
      simp only [lN] at hwl
      have hw2:IntKind.i64.wrap (QiO N (d.parts.take i) ((d.words F.fmt [] []).length:Int)+y)=QiO N (d.parts.take i) ((d.words F.fmt [] []).length:Int)+y:=wrap_i64 (by omega) (by omega)
      rw [hw,eA,eB,hw2]
      (repeat' (first | with_reducible refine And.intro ?_ ?_ | with_reducible intro _))
      all_goals first | rfl | (congr 1; omega) | skip
     ·simp -implicitDefEqProofs (disch:=omega) only [go_sem,↓reduceIte,gH,gS,Nd.cells,f41,f42,show ¬ i<d.parts.length from by omega]
      refine Qg 1000 ?_
      simp -implicitDefEqProofs (disch:=omega) only [go_sem,↓reduceIte,reduceCtorEq,rA,rq,rL,rT,lM,f0,f3,f7,f8,f9,hkm,hki,hkk,hkl,hidx,QiH,hD,hN]
      obtain ⟨hm1,hm2⟩:=Qx5 L d hidx
      simp only [Nd.cells] at hm1 hm2
      refine ⟨⟨by omega,hm1⟩,?_⟩
      simp only [addN,hmay,hidx,if_true]
      refine ⟨trivial,_,t1,t1+1,t1+1+1,by omega,⟨rfl,?_⟩⟩
      rw [hm2,hDD,hNN]
      have hi:i=d.parts.length:=by omega
      subst hi
      have hA:=Qnt hDb (by omega) d.parts
      have hw3:IntKind.i64.wrap (QlX D d.parts+1)=QlX D d.parts+1:=wrap_i64 (by omega) (by omega)
      simp [ndC,Nd.cells,QAF,QzZ,hw3]
    ·simp -implicitDefEqProofs (disch:=omega) only [go_sem,↓reduceIte,reduceCtorEq,rq,gH,gS,Nd.cells]
     exact ⟨rfl,rfl,rfl⟩
end
section
attribute [local go_sem] zA QhL zqn_0 zqn_1
theorem c_New (hT:Qe P tab) {base:Nat} {t:Nat} {o:List (Option Ob)} (hb:base≤o.length) :
 C P G base Qmo [] ⟨t,o⟩ fun v σ=>∃ v0 v1 v2 v3 v4 t' i1 i2 i3 i4,t≤t'∧v=.ptr (o.length+1) v0 0∧σ=⟨t',o++[some (.map v1 []),some (.arr v0 82 [.sl i2 v2 0 6 0 none,.mp i1 v1,.sl i3 v3 0 1 0 none,.sl i4 v4 0 1 0 none]),some (.arr v2 39 []),some (.arr v3 3 []),some (.arr v4 3 [])]⟩ ∧
  i1=o.length∧i2=o.length+2∧i3=o.length+3∧i4=o.length+4:=by
 refine QBc (Q:=fun v σ=>v=.ptr (o.length+1) (t+1) 0∧σ=⟨t+2,o++[some (.map t []),some (.arr (t+1) 82 [.lst 0 [] true,.mp o.length t,.lst 0 [] true,.lst 0 [] true])]⟩) ?_ fun v σ hv=>?_
 ·refine Qo hT Qmg (by simp [QhL]) (Qm 1000 ?_)
  simp -implicitDefEqProofs (disch:=omega) only [go_sem,↓reduceIte,reduceCtorEq,rA,rq,rL]
  simp
 ·obtain ⟨rfl,rfl⟩:=hv
  have h1:=HShift.ownAt (G:=G) 6 39 (base:=base) (k:=o.length+1) (v:=t+1) (T':=82) (p:=0) (z:=0) (cs:=[.lst 0 [] true,.mp o.length t,.lst 0 [] true,.lst 0 [] true]) (t:=t+2) (o:=o++[some (.map t []),some (.arr (t+1) 82 [.lst 0 [] true,.mp o.length t,.lst 0 [] true,.lst 0 [] true])]) (by omega) (by simp) rfl
  simp [] at h1
  have h2:=HShift.ownAt (G:=G) 1 3 (base:=base) (k:=o.length+1) (v:=t+1) (T':=82) (p:=2) (z:=0) (cs:=[.sl (o.length+2) (t+2) 0 6 0 none,.mp o.length t,.lst 0 [] true,.lst 0 [] true]) (t:=t+2+1) (o:=o++[some (.map t []),some (.arr (t+1) 82 [.sl (o.length+2) (t+2) 0 6 0 none,.mp o.length t,.lst 0 [] true,.lst 0 [] true]),some (.arr (t+2) 39 [])]) (by omega) (by simp) rfl
  simp [] at h2
  have h3:=HShift.ownAt (G:=G) 1 3 (base:=base) (k:=o.length+1) (v:=t+1) (T':=82) (p:=3) (z:=0) (cs:=[.sl (o.length+2) (t+2) 0 6 0 none,.mp o.length t,.sl (o.length+3) (t+2+1) 0 1 0 none,.lst 0 [] true]) (t:=t+2+1+1) (o:=o++[some (.map t []),some (.arr (t+1) 82 [.sl (o.length+2) (t+2) 0 6 0 none,.mp o.length t,.sl (o.length+3) (t+2+1) 0 1 0 none,.lst 0 [] true]),some (.arr (t+2) 39 []),some (.arr (t+2+1) 3 [])]) (by omega) (by simp) rfl
  simp [] at h3
  exact ⟨_,(h1.trans h2).trans h3,t+1,t,t+2,t+2+1,t+2+1+1,t+2+1+1+1,o.length,o.length+2,o.length+3,o.length+4,by omega,rfl,rfl,rfl,rfl,rfl,rfl⟩
end
end Go.Proofs.YtoeicjlflmmmcaaGreatDoor
