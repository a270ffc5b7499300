/- Ours. -/
import Derived.Test.YtbdhjeojcpgblaaGreatDoorJ1
import Derived.Test.YtbdhjeojcpgblaaGreatDoorAmD
import Derived.Test.YtbdhjeojcpgblaaGreatDoorY
open Nat renaming reduceEqDiff → rq, reduceAdd → rA, reduceLeDiff → rL, reduceLT → rT, zero_add → zA, le_refl → lR, zero_le → zL, add_zero → aZ
open List renaming length_cons → lC, length_nil → lN, take_succ_cons → tSq, length_append → lA, nil_append → nA, cons_append → cA, append_assoc → aA, take_nil → tN, take_zero → tZ, length_map → lM
open Bool renaming not_false → nF, not_true → nT
namespace Go.Proofs.YtbdhjeojcpgblaaGreatDoor
open Go Go.Am
set_option maxRecDepth 100000
variable {P:Program} {G:Nat→Option V}
section
attribute [local go_sem] nF nT aZ lR Nat.mul_one Nat.succ_ne_zero zA zL Option.getD_none Option.getD_some Option.isSome_none Option.isSome_some decide_false decide_true gt_iff_lt Qu YR QAD QAC Que Qud Quc Qub Qua Qt9 QAB QAA QAz QAy QAx QAw QAv QAu Zd zqa_0 zqa_1 zqa_2 zqa_3
def Qhs:Nat→List Nd→List (V × V)
 | _,[]=>[]
 | k,d::l=>(.agg d.cells,.int .i64 k)::Qhs (k+1) l
def idx (d:Nd):List Nd→Option Nat
 | []=>none
 | e::l=>if d=e then some 0 else (idx d l).map (·+1)
abbrev k6:List Kd:=[.i,.i,.i,.i,.i,.i]
theorem wrap_i64 {x:Int} (h1:-9223372036854775808≤x) (h2:x≤9223372036854775807):IntKind.i64.wrap x=x:=by
 unfold IntKind.wrap
 simp [IntKind.bits,IntKind.signed]
 omega
theorem Qni (d e:Nd):QbT k6 (.agg d.cells) (.agg e.cells)=decide (d=e):=by
 cases d; cases e
 simp [QbT,Nd.cells,V.cells,Qb1,QqX]
 grind
theorem Qpo (d e:Nd):(Qb1 k6 (V.agg d.cells).cells (V.agg e.cells).cells).isSome=true:=by
 simp [Nd.cells,V.cells,Qb1,QqX]
theorem QwR:∀ (k:Nat) (l:List Nd) (p:V × V),p∈Qhs k l→∃ d,p.1=.agg (Nd.cells d)
 | _,[],p,h=>by simp [Qhs] at h
 | k,d::l,p,h=>by
   simp only [Qhs,List.mem_cons] at h
   rcases h with h | h
   ·exact ⟨d,by rw [h]⟩
   ·exact QwR (k+1) l p h
theorem QuQ (d:Nd) (k:Nat) (l:List Nd):Qan true k6 (.agg d.cells) (Qhs k l):=by
 refine ⟨⟨rfl,Qpo d d⟩,fun p hp=>?_⟩
 obtain ⟨e,he⟩:=QwR k l p hp
 rw [he]
 exact ⟨rfl,Qpo d e⟩
theorem Qr1 (d:Nd):∀ (k:Nat) (l:List Nd),Qn6 k6 (.agg d.cells) (Qhs k l)=(idx d l).map fun i=>V.int .i64 ((k+i:Nat):Int)
 | k,[]=>rfl
 | k,e::l=>by
   have ih:=Qr1 d (k+1) l
   unfold Qn6 at ih ⊢
   simp only [Qhs,idx,List.find?_cons,Qni]
   by_cases h:d=e
   ·simp [h]
   ·simp only [h,decide_false,if_false]
    rw [ih]
    cases idx d l <;> simp; omega
theorem Qm9 (d:Nd):∀ (k:Nat) (l:List Nd),Qg1 k6 (.agg d.cells) (Qhs k l)=idx d l
 | k,[]=>rfl
 | k,e::l=>by
   simp only [Qhs,idx,Qg1,Qni,Qm9 d (k+1) l]
   by_cases h:d=e <;> simp [h]
theorem QeF:∀ (k:Nat) (l:List Nd),(Qhs k l).length=l.length
 | _,[]=>rfl
 | k,d::l=>by simp [Qhs,QeF (k+1) l]
theorem Qns:∀ (k:Nat) (l:List Nd) (d:Nd),Qhs k (l++[d])=Qhs k l++[(.agg d.cells,.int .i64 ((k+l.length:Nat):Int))]
 | k,[],d=>by simp [Qhs]
 | k,e::l,d=>by simp [Qhs,Qns (k+1) l d]; omega
theorem QC1 (L:List Nd) (d:Nd) (h:idx d L=none):L.length<(Qr2 k6 (.agg d.cells) (.int .i64 0) (Qhs 0 L)).length ∧
 (Qr2 k6 (.agg d.cells) (.int .i64 0) (Qhs 0 L)).modify L.length (fun p=>(p.1,.int .i64 (L.length:Nat)))=Qhs 0 (L++[d]):=by
 have e1:Qr2 k6 (.agg d.cells) (.int .i64 0) (Qhs 0 L)=Qhs 0 L++[(.agg d.cells,.int .i64 0)]:=by
  unfold Qr2
  rw [Qm9,h]
  rfl
 rw [e1,Qns]
 refine ⟨by simp [QeF],?_⟩
 have:∀ (a:List (V × V)) (b:V × V) (f:V × V→V × V),(a++[b]).modify a.length f=a++[f b]:=fun a b f=>by
  induction a with
  | nil=>rfl
  | cons x a ih=>simpa using ih
 have h2:=this (Qhs 0 L) (.agg d.cells,.int .i64 0) (fun p=>(p.1,.int .i64 (L.length:Nat)))
 rw [QeF] at h2
 rw [h2]
 simp
def ndC (l:List Nd):List V:=(l.map Nd.cells).flatten
theorem Qjy (l:List Nd):(ndC l).length=l.length * 6:=by
 induction l with
 | nil=>rfl
 | cons d l ih=>simp [ndC] at ih ⊢; simp [Nd.cells]; omega
def gH (v0 v1 v2 v3 v4:Nat) (L:List Nd) (D N:List Int):List (Option Ob) :=
 [gS v0 v1 v2 v3 v4 L.length,some (.map v1 (Qhs 0 L)),some (.arr v2 51 (ndC L)),some (.arr v3 3 (D.map (V.int .i64))),some (.arr v4 3 (N.map (V.int .i64)))]
def zeroNd:Nd:=⟨0,0,0,0,0,0⟩
theorem QCe {l:List Nd} {i:Nat} {d:Nd} (h:l[i]?=some d):((ndC l).drop (i * 6)).take 6=d.cells:=by
 induction l generalizing i with
 | nil=>simp at h
 | cons e l ih =>
   cases i with
   | zero=>simp at h; subst h; simp [ndC,Nd.cells]
   | succ i =>
     have:=ih (i:=i) (by simpa using h)
     have e1:ndC (e::l)=e.cells++ndC l:=by simp [ndC]
     have e2:(i+1) * 6=e.cells.length+i * 6:=by simp [Nd.cells]; omega
     rw [e1,e2,← List.drop_drop,List.drop_left]
     exact this
theorem c_Node (hT:Qf P tab) {base:Nat} {v0 v1 v2 v3 v4 t:Nat} {L:List Nd} {D N:List Int} {id:Int} (hb:base≤5) :
 C P G base Qa9 [.ptr 0 v0 0,.int .i64 id] ⟨t,gH v0 v1 v2 v3 v4 L D N⟩ fun v σ=>v=(if 0≤id∧id<L.length then .tup [.agg (L.getD id.toNat zeroNd).cells,.bool true] else .tup [.agg zeroNd.cells,.bool false])∧∃ t',t≤t'∧σ=⟨t',gH v0 v1 v2 v3 v4 L D N⟩:=by
 refine Qi 5 hb (Qk hT QF (by simp [Zd]) (Qg 1000 ?_))
 simp -implicitDefEqProofs (disch:=omega) only [go_sem,↓reduceIte,reduceCtorEq,rA,rq,gH,gS]
 refine call hT Ze (c_is hT) 1000 fun v σ hv=>?_
 obtain ⟨rfl,rfl⟩:=hv
 by_cases h:0≤id∧id<L.length
 ·obtain ⟨d,hd⟩:∃ d,L[id.toNat]?=some d:=⟨_,List.getElem?_eq_getElem (by omega)⟩
  have hl:=Qjy L
  have hc:=QCe hd
  have hlen:id.toNat<L.length:=by omega
  have h6:id.toNat * 6+6≤(ndC L).length:=by omega
  have hgd:L.getD id.toNat zeroNd=d:=by simp [List.getD_eq_getElem?_getD,hd]
  simp -implicitDefEqProofs (disch:=omega) only [go_sem,↓reduceIte,reduceCtorEq,rA,rq,rL,gS,h,hc,hlen,h6,hgd,Nd.cells]
  exact ⟨_,by omega,rfl⟩
 ·simp -implicitDefEqProofs (disch:=omega) only [go_sem,↓reduceIte,reduceCtorEq,rA,rq,rL,gS,h,Nd.cells,zeroNd]
  exact ⟨_,by omega,rfl⟩
theorem QfX (L:List Nd):Qb (ndC L)=true:=by
 induction L with
 | nil=>rfl
 | cons d l ih=>simp [ndC,Nd.cells,Qb,Qd] at ih ⊢; exact ih
theorem QaH (D:List Int):Qb (D.map (V.int .i64))=true:=by
 induction D with
 | nil=>rfl
 | cons d l ih=>simp [Qb,Qd,ih]
theorem QgU (n:Nat):∀ (k:Nat) (L:List Nd),(Qhs k L).all (fun p=>V.under n p.2)=true
 | _,[]=>rfl
 | k,d::l=>by simp only [Qhs,List.all_cons,QgU n (k+1) l,Bool.and_true]; rfl
theorem QPZ (v0 v1 v2 v3 v4:Nat) (L:List Nd) (D N:List Int):QBt 5 (gH v0 v1 v2 v3 v4 L D N)=true:=by
 simp [gH,gS,QBt,Ob.under,YH,V.under,QR _ (QfX L),QR _ (QaH D),QR _ (QaH N),-List.all_eq_true,QgU]
def addN (L:List Nd) (d:Nd):Int × List Nd :=
 if d.may L.length then (match idx d L with | some i=>((i:Int),L) | none=>((L.length:Int),L++[d])) else (-1,L)
end
section
attribute [local go_sem] nF nT aZ lR Nat.mul_one zA Option.getD_none Option.getD_some decide_false decide_true gt_iff_lt Qu Yl QLj QLi QLh QLg QLf QLe QLd QLc
def gwf (L:List Nd):Prop:=∀ (i:Nat) (d:Nd),L[i]?=some d→∀ p∈d.parts,0≤p∧p<i
def Qau (L:List Nd):Nat→Int→List Int→List Int
 | 0,_,S=>S
 | f+1,id,S=>if 0≤id∧id<L.length∧id ∉ S then (L.getD id.toNat zeroNd).parts.foldl (fun S p=>Qau L f p S) (S++[id]) else S
def okS (L:List Nd) (S:List Int):Prop:=S.Nodup∧∀ x∈S,0≤x∧x<L.length
variable {S:List Int} {L:List Nd}
theorem QB5 (h:okS L S):S.length≤L.length:=QmU _ _ h.1 h.2
theorem QB6 {id:Int} (h:okS L S) (h0:0≤id) (h1:id<L.length) (h2:id ∉ S):okS L (S++[id]):=by
 refine ⟨?_,fun x hx=>?_⟩
 ·rw [List.nodup_append]
  exact ⟨h.1,by simp,fun a ha b hb=>by simp at hb; subst hb; exact fun e=>h2 (e▸ha)⟩
 ·simp only [List.mem_append,List.mem_singleton] at hx
  rcases hx with hx | rfl
  ·exact h.2 x hx
  ·exact ⟨h0,h1⟩
theorem Ql6 (L:List Nd):∀ (f:Nat) (id:Int) (S:List Int),okS L S→okS L (Qau L f id S)
 | 0,_,_,h=>h
 | f+1,id,S,h=>by
   simp only [Qau]
   split
   ·rename_i hc
    have:∀ (l:List Int) (S:List Int),okS L S→okS L (l.foldl (fun S p=>Qau L f p S) S):=fun l=>by
     induction l with
     | nil=>intro S h; exact h
     | cons p l ih=>intro S h; exact ih _ (Ql6 L f p S h)
    exact this _ _ (QB6 h hc.1 hc.2.1 hc.2.2)
   ·exact h
def one1:Int→V:=fun _=>.int .i64 1
def wFn (b0 c0 o0 f0:Nat):V:=.fn (.func ZK) [] [.ptr 5 b0 0,.ptr 7 c0 0,.ptr 8 o0 0,.ptr 9 f0 0]
def uH (v0 v1 v2 v3 v4 b0 s0 c0 o0 f0 r0:Nat) (L:List Nd) (D N S:List Int):List (Option Ob) :=
 [gS v0 v1 v2 v3 v4 L.length,some (.map v1 (Qhs 0 L)),some (.arr v2 51 (ndC L)),some (.arr v3 3 (D.map (V.int .i64))),some (.arr v4 3 (N.map (V.int .i64))),
  some (.arr b0 34 [.ptr 0 v0 0]),some (.map s0 (im .i64 one1 S)),some (.arr c0 218 [.mp 6 s0]),some (.arr o0 38 [.sl 10 r0 0 1 S.length none]),some (.arr f0 219 [wFn b0 c0 o0 f0]),some (.arr r0 36 (S.map (V.int .i64)))]
theorem c_walk (hT:Qf P tab) {base:Nat} (hb:base≤5) {v0 v1 v2 v3 v4 b0 s0 c0 o0 f0:Nat} {D N:List Int} (hL:L.length≤1000000) (hwf:gwf L):∀ (f:Nat) (id:Int) (S:List Int) (t r0:Nat),id.toNat<f→okS L S →
 C P G base ZK [.int .i64 id,.ptr 5 b0 0,.ptr 7 c0 0,.ptr 8 o0 0,.ptr 9 f0 0] ⟨t,uH v0 v1 v2 v3 v4 b0 s0 c0 o0 f0 r0 L D N S⟩ fun v σ=>∃ t' r0',t≤t'∧σ=⟨t',uH v0 v1 v2 v3 v4 b0 s0 c0 o0 f0 r0' L D N (Qau L f id S)⟩:=by
 intro f
 induction f with
 | zero=>intro id S t r0 h; omega
 | succ f ih =>
   intro id S t r0 hf hS
   have hSl:=QB5 hS
   have hkk:=QCo .i64 one1 S id
   have hkm:=QCl .i64 one1 id S
   refine Qk hT ZH (by simp [Yl]) (Qg 1000 ?_)
   simp -implicitDefEqProofs (disch:=omega) only [go_sem,↓reduceIte,reduceCtorEq,rA,rq,uH,gS]
   refine call hT Ze (c_is hT) 1000 fun v σ hv=>?_
   obtain ⟨rfl,rfl⟩:=hv
   by_cases hin:0≤id∧id<L.length
   ·by_cases hid:id∈S
    ·rw [if_pos hid] at hkm
     simp -implicitDefEqProofs (disch:=omega) only [go_sem,↓reduceIte,reduceCtorEq,rA,rq,Int.reduceLT,gS,hin,hkk,hkm,one1]
     exact ⟨t,r0,by omega,by simp [Qau,hid]⟩
    ·rw [if_neg hid] at hkm
     have hmp:=QCj .i64 one1 id (.int .i64 1) rfl S hid
     obtain ⟨d,hd⟩:∃ d,L[id.toNat]?=some d:=⟨_,List.getElem?_eq_getElem (by omega)⟩
     have hl:=Qjy L
     have hc:=QCe hd
     have hlen:id.toNat<L.length:=by omega
     have h6:id.toNat * 6+6≤(ndC L).length:=by omega
     have hgd:L.getD id.toNat zeroNd=d:=by simp [List.getD_eq_getElem?_getD,hd]
     simp -implicitDefEqProofs (disch:=omega) only [go_sem,↓reduceIte,reduceCtorEq,rA,rq,rL,Int.reduceLT,gS,hin,hkk,hkm,hmp,hc,hlen,h6,lM,Nd.cells,show base≤6 from by omega,show base≤8 from by omega,show base≤10 from by omega]
     refine Qbe hT QfH (QDv hT d) rfl 1000 fun v hv=>?_
     obtain ⟨z,rfl,hz⟩:=hv
     refine yg ?_
     have hS1:=QB6 hS hin.1 hin.2 hid
     have hdp:∀ p∈d.parts,0≤p∧p<id.toNat:=hwf _ d hd
     refine Qdm (fun m fr σ=>∃ (i t' r':Nat) (S':List Int),i≤d.parts.length∧m=d.parts.length - i∧okS L S'∧S'=(d.parts.take i).foldl (fun S p=>Qau L f p S) (S++[id])∧t≤t'∧Ql fr 1=.ptr 5 b0 0∧Ql fr 2=.ptr 7 c0 0∧Ql fr 3=.ptr 8 o0 0∧Ql fr 4=.ptr 9 f0 0 ∧
      Ql fr 31=.lst z (d.parts.map (V.int .i64)) true∧Ql fr 32=.int .i64 d.parts.length∧Ql fr 33=.int .i64 i∧σ=⟨t',uH v0 v1 v2 v3 v4 b0 s0 c0 o0 f0 r' L D N S'⟩)
      (fun e fr σ=>e=.ex 0∧∃ t' r',t≤t'∧σ=⟨t',uH v0 v1 v2 v3 v4 b0 s0 c0 o0 f0 r' L D N (Qau L (f+1) id S)⟩)
      (m0:=d.parts.length) ⟨0,t+1,t,S++[id],zL _,rfl,hS1,rfl,by omega,?_⟩ (fun m fr σ hJ=>?_) (fun e fr σ hE=>?_)
     ·refine ya ?_
      simp [uH,gS,wFn]
     ·obtain ⟨i,t',r',S',hi,rfl,hS',hS'e,ht',f1,f2,f3,f4,f31,f32,f33,rfl⟩:=hJ
      refine Qg 1000 ?_
      rcases Nat.lt_or_ge i d.parts.length with hlt | hge
      ·have hz1:z=1:=by rcases hz with h | h; exact h; rw [h] at hlt; simp at hlt
       subst hz1
       obtain ⟨p,hp⟩:∃ p,d.parts[i]?=some p:=⟨_,List.getElem?_eq_getElem hlt⟩
       obtain ⟨hp0,hp1⟩:=hdp p (List.mem_of_getElem? hp)
       have hg:(d.parts.map (V.int .i64)).getD i .any=V.int .i64 p:=by simp [List.getD_eq_getElem?_getD,hp]
       simp -implicitDefEqProofs (disch:=omega) only [go_sem,↓reduceIte,rq,uH,gS,lM,f4,f31,f32,f33,hlt,hg,wFn]
       refine Qyf hT ZH (ih p S' t' r' (by omega) hS') 1000 fun v σ hv=>?_
       obtain ⟨t2,r2,ht2,rfl⟩:=hv
       simp -implicitDefEqProofs (disch:=omega) only [go_sem,↓reduceIte,rq,f33]
       refine ⟨d.parts.length - (i+1),_,_,by omega,Shift.refl _ _ _ _,i+1,t2,r2,Qau L f p S',hlt,rfl,Ql6 L f p S' hS',?_,by omega,?_⟩
       ·rw [List.take_add_one,hp,Option.toList_some,List.foldl_append,← hS'e]; rfl
       ·have hpl:d.parts.length≤2:=by unfold Nd.parts; split <;> (try split) <;> simp
        have hw:IntKind.i64.wrap ((i:Int)+1)=((i+1:Nat):Int):=by
         rw [wrap_i64 (by omega) (by omega)]; rfl
        simp -implicitDefEqProofs (disch:=omega) only [go_sem,↓reduceIte,rq,f1,f2,f3,f4,f31,f32,hw]
        rfl
      ·simp -implicitDefEqProofs (disch:=omega) only [go_sem,↓reduceIte,f32,f33,show ¬ i<d.parts.length from by omega]
       refine ⟨t',r',ht',?_⟩
       rw [List.take_of_length_le (by omega)] at hS'e
       have:Qau L (f+1) id S=S':=by rw [Qau,if_pos ⟨hin.1,hin.2,hid⟩,hgd,hS'e]
       rw [this]; exact ⟨rfl,rfl⟩
     ·obtain ⟨rfl,t',r',ht',rfl⟩:=hE
      refine Qa 1000 ?_
      refine ya ?_
      exact ⟨t',r',ht',rfl,rfl⟩
   ·simp -implicitDefEqProofs (disch:=omega) only [go_sem,↓reduceIte,reduceCtorEq,rq,gS,hin]
    exact ⟨t,r0,by omega,by simp [Qau]; grind⟩
end
section
attribute [local go_sem] nF lR zA decide_false decide_true Qu Zc QOb QOa QAt QAs QN9 QN8 QN7 QN6 QN5 QN4 QN3 QN2
structure Qe8 (P:Program):Prop where
 some:∀ (blk off cap:Nat) (zs:List Int) (w:World),Go.Sort.Holds (Value.int .i64) w blk off zs.toArray→blk<w.heap.size→zs.length<4611686018427387904 →
  Calls P Xf #[.slice (some ⟨blk,off,none⟩) zs.length cap] w fun e w'=>e=.returned (.tuple #[])∧∃ n os,w'=Go.Sort.grow (Go.Sort.putRow (Value.int .i64) (Go.Sort.ahead w n) blk off (zs.mergeSort fun x y=>decide (x≤y)).toArray) os
 none:∀ (p:Option Addr) (cap:Nat) (w:World),Calls P Xf #[.slice p 0 cap] w fun e w'=>e=.returned (.tuple #[])∧w'=w
variable {base t:Nat}
theorem c_Sort (S:Qe8 P) {k v T:Nat} {o:List (Option Ob)} {zs:List Int} {n:Nat} {lim:Option Nat} (hk:base≤k) (ho:o[k]?=some (some (.arr v T (zs.map (V.int .i64))))) (hn:n=zs.length) (hl:zs.length<4611686018427387904) :
 C P G base Xf [.sl k v 0 1 n lim] ⟨t,o⟩ fun r σ'=>r=.tup []∧σ'=⟨t,o.set k (some (.arr v T ((zs.mergeSort fun x y=>decide (x≤y)).map (V.int .i64))))⟩:=by
 subst hn
 cases zs with
 | nil =>
   refine (QD2 (fun p cap w=>S.none p cap w)).conseq fun r σ' ⟨h1,h2⟩=>⟨h1,?_⟩
   rw [h2]
   congr 1
   have hk':=(List.getElem?_eq_some_iff.1 ho).1
   have:=(List.getElem?_eq_some_iff.1 ho).2
   apply List.ext_getElem? 
   intro m
   by_cases hm:m=k
   ·subst hm; rw [ho]; simp [hk']
   ·simp [List.getElem?_set_ne (Ne.symm hm)]
 | cons z zs=>exact QQw hk ho (by simp) (by simp) fun blk off cap w hH hb=>S.some blk off cap _ w hH hb hl
def walks (L:List Nd) (roots:List Int) (S:List Int):List Int:=roots.foldl (fun S r=>Qau L (r.toNat+1) r S) S
def Qjp (L:List Nd) (roots:List Int):List Int:=(walks L roots []).mergeSort fun x y=>decide (x≤y)
theorem QmQ (L:List Nd):∀ (roots S:List Int),okS L S→okS L (walks L roots S)
 | [],S,h=>h
 | r::roots,S,h=>QmQ L roots _ (Ql6 L _ r S h)
theorem c_Uses (hT:Qf P tab) (SO:Qe8 P) (hb:base≤5) {v0 v1 v2 v3 v4:Nat} {L:List Nd} {D N:List Int} (hL:L.length≤1000000) (hwf:gwf L) (roots:List Int) (z:Nat) (tight:Bool) (hz:z=1∨roots=[]) (hrl:roots.length≤9223372036854775806) :
 C P G base Qa8 [.ptr 0 v0 0,.lst z (roots.map (V.int .i64)) tight] ⟨t,gH v0 v1 v2 v3 v4 L D N⟩ fun v σ=>v=.lst 1 ((Qjp L roots).map (V.int .i64)) false∧∃ t',t≤t'∧σ=⟨t',gH v0 v1 v2 v3 v4 L D N⟩:=by
 refine C.wk hb (lR _) (Qi 5 (lR _) (QGl (Q:=fun v σ=>∃ (r n t':Nat) (x5 x6 x7 x8 x9:Option Ob),n=(Qjp L roots).length∧t≤t'∧v=.sl 10 r 0 1 n none∧σ=⟨t',gH v0 v1 v2 v3 v4 L D N++[x5,x6,x7,x8,x9,some (.arr r 36 ((Qjp L roots).map (V.int .i64)))]⟩) ?_ fun v σ hv=>?_))
 ·refine Qk hT QdU (by simp [Zc]) (Qg 1000 ?_)
  simp -implicitDefEqProofs (disch:=omega) only [go_sem,↓reduceIte,reduceCtorEq,rA,rq,rL,gH,gS,lM,lN,nA,lC,cA,show (Value.map none).oneCell'=true from rfl,show Value.nilFunc.oneCell'=true from rfl]
  refine Xr (HShift.shift (HShift.ownAt 1 36 (k:=8) (p:=0) (by omega) rfl rfl)) (Qa 1000 ?_)
  simp -implicitDefEqProofs (disch:=omega) only [go_sem,rA,lN,nA,lC,cA]
  refine Qdm (fun m fr σ=>∃ (i t' r':Nat) (S:List Int),i≤roots.length∧m=roots.length - i∧okS L S∧S=walks L (roots.take i) []∧t≤t'∧Ql fr 2=.ptr 5 t 0∧Ql fr 5=.ptr 7 (t+1+1) 0∧Ql fr 6=.ptr 8 (t+1+1+1) 0∧Ql fr 7=.ptr 9 (t+1+1+1+1) 0 ∧
   Ql fr 12=.lst z (roots.map (V.int .i64)) tight∧Ql fr 13=.int .i64 roots.length∧Ql fr 14=.int .i64 i∧σ=⟨t',uH v0 v1 v2 v3 v4 t (t+1) (t+1+1) (t+1+1+1) (t+1+1+1+1) r' L D N S⟩)
   (fun e fr σ=>e=.ex 0∧Ql fr 6=.ptr 8 (t+1+1+1) 0∧∃ t' r',t≤t'∧σ=⟨t',uH v0 v1 v2 v3 v4 t (t+1) (t+1+1) (t+1+1+1) (t+1+1+1+1) r' L D N (walks L roots [])⟩)
   (m0:=roots.length) ⟨0,t+1+1+1+1+1+1,t+1+1+1+1+1,[],zL _,rfl,⟨List.nodup_nil,by simp⟩,rfl,by omega,?_⟩ (fun m fr σ hJ=>?_) (fun e fr σ hE=>?_)
  ·refine ya ?_
   simp [uH,gS,wFn,im]
  ·obtain ⟨i,t',r',S,hi,rfl,hS,hSe,ht',f2,f5,f6,f7,f12,f13,f14,rfl⟩:=hJ
   refine Qg 1000 ?_
   rcases Nat.lt_or_ge i roots.length with hlt | hge
   ·have hz1:z=1:=by rcases hz with h | h; exact h; rw [h] at hlt; simp at hlt
    subst hz1
    obtain ⟨p,hp⟩:∃ p,roots[i]?=some p:=⟨_,List.getElem?_eq_getElem hlt⟩
    have hg:(roots.map (V.int .i64)).getD i .any=V.int .i64 p:=by simp [List.getD_eq_getElem?_getD,hp]
    simp -implicitDefEqProofs (disch:=omega) only [go_sem,↓reduceIte,rq,uH,gS,lM,f7,f12,f13,f14,hlt,hg,wFn]
    refine Qyf hT ZH (c_walk hT (lR 5) hL hwf (p.toNat+1) p S t' r' (by omega) hS) 1000 fun v σ hv=>?_
    obtain ⟨t2,r2,ht2,rfl⟩:=hv
    simp -implicitDefEqProofs (disch:=omega) only [go_sem,↓reduceIte,rq,f14]
    refine ⟨roots.length - (i+1),_,_,by omega,Shift.refl _ _ _ _,i+1,t2,r2,Qau L (p.toNat+1) p S,hlt,rfl,Ql6 L _ p S hS,?_,by omega,?_⟩
    ·rw [List.take_add_one,hp,Option.toList_some,walks,List.foldl_append,hSe]; rfl
    ·have hw:IntKind.i64.wrap ((i:Int)+1)=((i+1:Nat):Int):=by
      rw [wrap_i64 (by omega) (by omega)]; rfl
     simp -implicitDefEqProofs (disch:=omega) only [go_sem,↓reduceIte,rq,f2,f5,f6,f7,f12,f13,hw]
     rfl
   ·simp -implicitDefEqProofs (disch:=omega) only [go_sem,↓reduceIte,rq,f6,f13,f14,show ¬ i<roots.length from by omega]
    rw [List.take_of_length_le (by omega)] at hSe
    exact ⟨t',r',ht',rfl,by rw [hSe]⟩
  ·obtain ⟨rfl,f6,t',r',ht',rfl⟩:=hE
   have hSw:=QB5 (QmQ L roots [] ⟨List.nodup_nil,by simp⟩)
   refine Qa 1000 ?_
   simp -implicitDefEqProofs (disch:=omega) only [go_sem,↓reduceIte,uH,gS,f6]
   refine call hT QbH (c_Sort SO (k:=10) (T:=36) (zs:=walks L roots []) (by omega) rfl rfl (by omega)) 1000 fun v σ hv=>?_
   obtain ⟨rfl,rfl⟩:=hv
   simp -implicitDefEqProofs (disch:=omega) only [go_sem,↓reduceIte,rq,f6]
   exact ⟨r',_,t',_,_,_,_,_,rfl,ht',by simp [Qjp],rfl,rfl⟩
 ·obtain ⟨r,n,t',x5,x6,x7,x8,x9,rfl,ht',rfl,rfl⟩:=hv
  refine ⟨10,r,36,(Qjp L roots).map (V.int .i64),by omega,rfl,QaH _,?_⟩
  refine ⟨by simp [YS,gH],?_,t',ht',?_⟩
  ·simp only [XR,Qd1]
   simp [List.take_of_length_le]
  ·simp [gH,QN]
end
section
attribute [local go_sem] nF nT aZ lR Nat.mul_one Nat.succ_ne_zero zA zL Option.getD_none Option.getD_some Option.isSome_none Option.isSome_some decide_false decide_true gt_iff_lt Qu YR QAD QAC Que Qud Quc Qub Qua Qt9 QAB QAA QAz QAy QAx QAw QAv QAu
def Qom (D:List Int) (ps:List Int):Int:=ps.foldl (fun m p=>max m (D.getD p.toNat 0)) 0
def QFL (D:List Int) (d:Nd):Int:=Qom D d.parts+1
def Qlt (L:List Nd):List Int:=L.foldl (fun D d=>D++[QFL D d]) []
theorem QnB (L:List Nd) (d:Nd):Qlt (L++[d])=Qlt L++[QFL (Qlt L) d]:=by simp [Qlt,List.foldl_append]
def QjM (N:List Int) (ps:List Int) (b:Int):Int:=ps.foldl (fun m p=>m+N.getD p.toNat 0) b
def QE6 (fmt:Int→List UInt8) (N:List Int) (d:Nd):Int:=if 65537<QjM N d.parts ((d.words fmt [] []).length:Int) then 65537 else QjM N d.parts ((d.words fmt [] []).length:Int)
def Qlc (fmt:Int→List UInt8) (L:List Nd):List Int:=L.foldl (fun N d=>N++[QE6 fmt N d]) []
theorem Qnb (fmt:Int→List UInt8) (L:List Nd) (d:Nd):Qlc fmt (L++[d])=Qlc fmt L++[QE6 fmt (Qlc fmt L) d]:=by simp [Qlc,List.foldl_append]
theorem Ql3 {α:Type} {p:List α→Prop} (h0:p []) (h1:∀ l a,p l→p (l++[a])) (l:List α):p l:=by
 have:∀ r:List α,p r.reverse:=fun r=>by
  induction r with
  | nil=>exact h0
  | cons a r ih=>rw [List.reverse_cons]; exact h1 _ _ ih
 simpa using this l.reverse
theorem QsN (L:List Nd):(Qlt L).length=L.length:=by
 refine Ql3 (p:=fun L=>(Qlt L).length=L.length) rfl (fun l a h=>?_) L
 rw [QnB]; simp [h]
theorem Qr5 (fmt:Int→List UInt8) (L:List Nd):(Qlc fmt L).length=L.length:=by
 refine Ql3 (p:=fun L=>(Qlc fmt L).length=L.length) rfl (fun l a h=>?_) L
 rw [Qnb]; simp [h]
theorem Qqm {D:List Int} {b:Int} (hD:∀ x∈D,0≤x∧x≤b) (h0:0≤b) (ps:List Int):0≤Qom D ps∧Qom D ps≤b:=by
 have:∀ (ps:List Int) (m:Int),0≤m∧m≤b→0≤ps.foldl (fun m p=>max m (D.getD p.toNat 0)) m∧ps.foldl (fun m p=>max m (D.getD p.toNat 0)) m≤b:=fun ps=>by
  induction ps with
  | nil=>intro m h; exact h
  | cons p ps ih =>
    intro m h
    refine ih _ ?_
    have:0≤D.getD p.toNat 0∧D.getD p.toNat 0≤b:=by
     rw [List.getD_eq_getElem?_getD]
     cases hx:D[p.toNat]? with
     | none=>simp; exact h0
     | some x=>simpa using hD x (List.mem_of_getElem? hx)
    show 0≤max m (D.getD p.toNat 0)∧max m (D.getD p.toNat 0)≤b
    omega
 exact this ps 0 ⟨Int.le_refl _,h0⟩
theorem QFK (L:List Nd):∀ x∈Qlt L,0≤x∧x≤L.length:=by
 refine Ql3 (p:=fun L=>∀ x∈Qlt L,0≤x∧x≤L.length) (by simp [Qlt]) (fun l a h=>?_) L
 rw [QnB]
 intro x hx
 simp only [List.mem_append,List.mem_singleton] at hx
 rcases hx with hx | rfl
 ·have:=h x hx; simp; omega
 ·have:=Qqm (b:=l.length) h (by omega) a.parts
  simp [QFL]; omega
theorem Qwy {N:List Int} (hN:∀ x∈N,0≤x∧x≤65537) (ps:List Int) (b:Int) (hb:0≤b):0≤QjM N ps b∧QjM N ps b≤b+65537 * ps.length:=by
 induction ps generalizing b with
 | nil=>simp [QjM]; exact hb
 | cons p ps ih =>
   have:0≤N.getD p.toNat 0∧N.getD p.toNat 0≤65537:=by
    rw [List.getD_eq_getElem?_getD]
    cases hx:N[p.toNat]? with
    | none=>simp
    | some x=>simpa using hN x (List.mem_of_getElem? hx)
   have h2:=ih (b+N.getD p.toNat 0) (by omega)
   simp only [QjM,List.foldl_cons,lC] at h2 ⊢
   omega
theorem QE5 (fmt:Int→List UInt8) (L:List Nd):∀ x∈Qlc fmt L,0≤x∧x≤65537:=by
 refine Ql3 (p:=fun L=>∀ x∈Qlc fmt L,0≤x∧x≤65537) (by simp [Qlc]) (fun l a h=>?_) L
 rw [Qnb]
 intro x hx
 simp only [List.mem_append,List.mem_singleton] at hx
 rcases hx with hx | rfl
 ·exact h x hx
 ·have:=Qwy h a.parts ((a.words fmt [] []).length:Int) (by omega)
  unfold QE6
  split <;> omega
theorem QED {o:Int} (ho:0≤o∧o≤16):(signs.getD o.toNat []).length≤3:=by
 have:o=0∨o=1∨o=2∨o=3∨o=4∨o=5∨o=6∨o=7∨o=8∨o=9∨o=10∨o=11∨o=12∨o=13∨o=14∨o=15∨o=16:=by omega
 rcases this with h | h | h | h | h | h | h | h | h | h | h | h | h | h | h | h | h <;> rw [h] <;> decide
theorem QEn (F:Fmt P G) (d:Nd) (x y:List UInt8) (ho:0≤d.op∧d.op≤16):(d.words F.fmt x y).length≤x.length+y.length+60:=by
 have l1:=F.le d.n
 have l2:=F.le d.a
 have l3:=QED ho
 unfold Nd.words
 split
 ·omega
 ·split
  ·simp only [lA,lC,lN]; omega
  ·split
   ·simp only [lA,lC,lN]; omega
   ·simp only [lA,lC,lN]; omega
def gG (fmt:Int→List UInt8) (v0 v1 v2 v3 v4:Nat) (L:List Nd):List (Option Ob):=gH v0 v1 v2 v3 v4 L (Qlt L) (Qlc fmt L)
theorem c_AddG (hT:Qf P tab) (F:Fmt P G) {v0 v1 v2 v3 v4 t:Nat} {L:List Nd} (d:Nd) (hL:L.length≤1000000) (hn:i64 d.n) (ha:i64 d.a) :
 C P G 0 QbM [.ptr 0 v0 0,.agg d.cells] ⟨t,gG F.fmt v0 v1 v2 v3 v4 L⟩ fun v σ=>v=.int .i64 (addN L d).1∧∃ t' v2' v3' v4',t≤t'∧σ=⟨t',gG F.fmt v0 v1 v2' v3' v4' (addN L d).2⟩:=by
 have hD:=QsN L
 have hN:=Qr5 F.fmt L
 have hDb:=QFK L
 have hNb:=QE5 F.fmt L
 have hDD:=QnB L d
 have hNN:=Qnb F.fmt L d
 unfold gG
 generalize hDe:Qlt L=D at hD hDb hDD ⊢
 generalize hNe:Qlc F.fmt L=N at hN hNb hNN ⊢
 have hkm:=Qr1 d 0 L
 have hki:=Qm9 d 0 L
 have hkk:=QuQ d 0 L
 have hkl:=QeF 0 L
 refine Qi 5 (zL _) (Qk hT Qz (by simp [YR]) (Qg 1000 ?_))
 simp -implicitDefEqProofs (disch:=omega) only [go_sem,↓reduceIte,reduceCtorEq,rA,rq,gH,gS,Nd.cells]
 refine callE (ex:=_) hT QeT (c_may (o1:=_) (o2:=_) (o3:=_) (o4:=_) hT d (zL _)) rfl (QPZ ..) (zL _) rfl 1000 fun v σ hv=>?_
 obtain ⟨rfl,t1,ht1,rfl⟩:=hv
 refine ⟨rfl,QPZ ..,rfl,?_⟩
 simp only at ht1
 cases hmay:d.may L.length
 ·simp -implicitDefEqProofs (disch:=omega) only [go_sem,↓reduceIte,reduceCtorEq,rA,rq,rL,gS]
  have e1:addN L d=(-1,L):=by simp [addN,hmay]
  rw [e1]
  simp only [hDe,hNe]
  exact ⟨trivial,_,_,_,_,by omega,⟨rfl,rfl⟩⟩
 ·simp only [Nd.cells] at hkm hki hkk
  cases hidx:idx d L with
  | some i =>
    simp -implicitDefEqProofs (disch:=omega) only [go_sem,↓reduceIte,reduceCtorEq,rA,rq,rL,rT,gS,hkm,hkk,hidx]
    have e1:addN L d=((i:Int),L):=by simp [addN,hmay,hidx]
    rw [e1]
    simp only [hDe,hNe]
    exact ⟨trivial,_,_,_,_,by omega,⟨rfl,rfl⟩⟩
  | none =>
    simp -implicitDefEqProofs (disch:=omega) only [go_sem,↓reduceIte,reduceCtorEq,rA,rq,rL,rT,gS,hkm,hkk,hidx]
    have hop:0≤d.op∧d.op≤16:=by simp only [Nd.may] at hmay; grind
    refine Qbe hT QkC (QS1 hT F d [] [] hn ha hop (by simp) (by simp)) rfl 1000 fun v hv=>?_
    subst hv
    refine ya ?_
    refine Qbe hT QfH (QDv hT d) rfl 1000 fun v hv=>?_
    obtain ⟨z,rfl,hz⟩:=hv
    refine yg ?_
    have hpp:∀ p∈d.parts,0≤p∧p<L.length:=by simp only [Nd.may] at hmay; simp only [Nd.parts]; grind
    refine QmK (fun m fr σ=>∃ i:Nat,i≤d.parts.length∧m=d.parts.length - i∧Ql fr 0=.ptr 0 v0 0∧Ql fr 3=.ptr 5 t 0∧Ql fr 7=.int .i64 L.length∧Ql fr 8=.int .i64 (Qom D (d.parts.take i))∧Ql fr 9=.int .i64 (QjM N (d.parts.take i) ((d.words F.fmt [] []).length:Int)) ∧
     Ql fr 40=.lst z (d.parts.map (V.int .i64)) true∧Ql fr 41=.int .i64 d.parts.length∧Ql fr 42=.int .i64 i∧σ=⟨t1,gH v0 v1 v2 v3 v4 L D N++[some (.arr t 51 d.cells)]⟩) (fun m fr σ hJ=>?_) (m0:=d.parts.length) ⟨0,zL _,rfl,?_⟩
    ·obtain ⟨i,hi,rfl,f0,f3,f7,f8,f9,f40,f41,f42,rfl⟩:=hJ
     refine Qg 1000 ?_
     rcases Nat.lt_or_ge i d.parts.length with hlt | hge
     ·have hz1:z=1:=by rcases hz with h | h; exact h; rw [h] at hlt; simp at hlt
      subst hz1
      obtain ⟨p,hp⟩:∃ p,d.parts[i]?=some p:=⟨_,List.getElem?_eq_getElem hlt⟩
      obtain ⟨hp0,hp1⟩:=hpp p (List.mem_of_getElem? hp)
      have hg:(d.parts.map (V.int .i64)).getD i .any=V.int .i64 p:=by simp [List.getD_eq_getElem?_getD,hp]
      have hp2:p.toNat<L.length:=by omega
      obtain ⟨x,hx⟩:∃ x,D[p.toNat]?=some x:=⟨_,List.getElem?_eq_getElem (by omega)⟩
      obtain ⟨y,hy⟩:∃ y,N[p.toNat]?=some y:=⟨_,List.getElem?_eq_getElem (by omega)⟩
      have hgD:(D.map (V.int .i64)).getD p.toNat .any=V.int .i64 x:=by simp [List.getD_eq_getElem?_getD,hx]
      have hgN:(N.map (V.int .i64)).getD p.toNat .any=V.int .i64 y:=by simp [List.getD_eq_getElem?_getD,hy]
      simp -implicitDefEqProofs (disch:=omega) only [go_sem,↓reduceIte,reduceCtorEq,rA,rq,rL,gH,gS,Nd.cells,lM,f0,f8,f9,f40,f41,f42,hlt,hg,hp0,hp2,hgD,hgN]
      refine ⟨d.parts.length - (i+1),_,_,by omega,Shift.refl _ _ _ _,i+1,hlt,rfl,?_⟩
      simp -implicitDefEqProofs (disch:=omega) only [go_sem,↓reduceIte,reduceCtorEq,rq,f0,f3,f7,f40,f41]
      have hpl:d.parts.length≤2:=by unfold Nd.parts; split <;> (try split) <;> simp
      have hw:IntKind.i64.wrap ((i:Int)+1)=((i+1:Nat):Int):=by
       rw [wrap_i64 (by omega) (by omega)]; rfl
      have hpl2:(d.parts.take i).length≤2:=by rw [List.length_take]; omega
      have hA:=Qqm hDb (by omega) (d.parts.take i)
      have hB:=Qwy hNb (d.parts.take i) ((d.words F.fmt [] []).length:Int) (by omega)
      have hxb:=hDb x (List.mem_of_getElem? hx)
      have hyb:=hNb y (List.mem_of_getElem? hy)
      have eA:Qom D (d.parts.take (i+1))=max (Qom D (d.parts.take i)) x:=by
       rw [List.take_add_one,hp,Option.toList_some,Qom,List.foldl_append]; simp [Qom,List.getD_eq_getElem?_getD,hx]
      have eB:QjM N (d.parts.take (i+1)) ((d.words F.fmt [] []).length:Int)=QjM N (d.parts.take i) ((d.words F.fmt [] []).length:Int)+y:=by
       rw [List.take_add_one,hp,Option.toList_some,QjM,List.foldl_append]; simp [QjM,List.getD_eq_getElem?_getD,hy]
      have hwl:=QEn F d [] [] hop
      simp only [lN] at hwl
      have hw2:IntKind.i64.wrap (QjM N (d.parts.take i) ((d.words F.fmt [] []).length:Int)+y)=QjM N (d.parts.take i) ((d.words F.fmt [] []).length:Int)+y:=wrap_i64 (by omega) (by omega)
      rw [hw,eA,eB,hw2]
      (repeat' (first | with_reducible refine And.intro ?_ ?_ | with_reducible intro _))
      all_goals first | rfl | (congr 1; omega) | skip
     ·simp -implicitDefEqProofs (disch:=omega) only [go_sem,↓reduceIte,gH,gS,Nd.cells,f41,f42,show ¬ i<d.parts.length from by omega]
      refine Qa 1000 ?_
      simp -implicitDefEqProofs (disch:=omega) only [go_sem,↓reduceIte,reduceCtorEq,rA,rq,rL,rT,lM,f0,f3,f7,f8,f9,hkm,hki,hkk,hkl,hidx,Qjy,hD,hN]
      obtain ⟨hm1,hm2⟩:=QC1 L d hidx
      simp only [Nd.cells] at hm1 hm2
      refine ⟨⟨by omega,hm1⟩,?_⟩
      simp only [addN,hmay,hidx,if_true]
      refine ⟨trivial,_,t1,t1+1,t1+1+1,by omega,⟨rfl,?_⟩⟩
      rw [hm2,hDD,hNN]
      have hi:i=d.parts.length:=by omega
      subst hi
      have hA:=Qqm hDb (by omega) d.parts
      have hw3:IntKind.i64.wrap (Qom D d.parts+1)=Qom D d.parts+1:=wrap_i64 (by omega) (by omega)
      simp [ndC,Nd.cells,QFL,QE6,hw3]
    ·simp -implicitDefEqProofs (disch:=omega) only [go_sem,↓reduceIte,reduceCtorEq,rq,gH,gS,Nd.cells]
     exact ⟨rfl,rfl,rfl⟩
end
section
attribute [local go_sem] zA Qib zq7_0 zq7_1
theorem c_New (hT:Qf P tab) {base:Nat} {t:Nat} {o:List (Option Ob)} (hb:base≤o.length) :
 C P G base QjB [] ⟨t,o⟩ fun v σ=>∃ v0 v1 v2 v3 v4 t' i1 i2 i3 i4,t≤t'∧v=.ptr (o.length+1) v0 0∧σ=⟨t',o++[some (.map v1 []),some (.arr v0 81 [.sl i2 v2 0 6 0 none,.mp i1 v1,.sl i3 v3 0 1 0 none,.sl i4 v4 0 1 0 none]),some (.arr v2 51 []),some (.arr v3 3 []),some (.arr v4 3 [])]⟩ ∧
  i1=o.length∧i2=o.length+2∧i3=o.length+3∧i4=o.length+4:=by
 refine QGk (Q:=fun v σ=>v=.ptr (o.length+1) (t+1) 0∧σ=⟨t+2,o++[some (.map t []),some (.arr (t+1) 81 [.lst 0 [] true,.mp o.length t,.lst 0 [] true,.lst 0 [] true])]⟩) ?_ fun v σ hv=>?_
 ·refine Qk hT Qjq (by simp [Qib]) (Qg 1000 ?_)
  refine ya ?_
  simp
 ·obtain ⟨rfl,rfl⟩:=hv
  have h1:=HShift.ownAt (G:=G) 6 51 (base:=base) (k:=o.length+1) (v:=t+1) (T':=81) (p:=0) (z:=0) (cs:=[.lst 0 [] true,.mp o.length t,.lst 0 [] true,.lst 0 [] true]) (t:=t+2) (o:=o++[some (.map t []),some (.arr (t+1) 81 [.lst 0 [] true,.mp o.length t,.lst 0 [] true,.lst 0 [] true])]) (by omega) (by simp) rfl
  simp [] at h1
  have h2:=HShift.ownAt (G:=G) 1 3 (base:=base) (k:=o.length+1) (v:=t+1) (T':=81) (p:=2) (z:=0) (cs:=[.sl (o.length+2) (t+2) 0 6 0 none,.mp o.length t,.lst 0 [] true,.lst 0 [] true]) (t:=t+2+1) (o:=o++[some (.map t []),some (.arr (t+1) 81 [.sl (o.length+2) (t+2) 0 6 0 none,.mp o.length t,.lst 0 [] true,.lst 0 [] true]),some (.arr (t+2) 51 [])]) (by omega) (by simp) rfl
  simp [] at h2
  have h3:=HShift.ownAt (G:=G) 1 3 (base:=base) (k:=o.length+1) (v:=t+1) (T':=81) (p:=3) (z:=0) (cs:=[.sl (o.length+2) (t+2) 0 6 0 none,.mp o.length t,.sl (o.length+3) (t+2+1) 0 1 0 none,.lst 0 [] true]) (t:=t+2+1+1) (o:=o++[some (.map t []),some (.arr (t+1) 81 [.sl (o.length+2) (t+2) 0 6 0 none,.mp o.length t,.sl (o.length+3) (t+2+1) 0 1 0 none,.lst 0 [] true]),some (.arr (t+2) 51 []),some (.arr (t+2+1) 3 [])]) (by omega) (by simp) rfl
  simp [] at h3
  exact ⟨_,(h1.trans h2).trans h3,t+1,t,t+2,t+2+1,t+2+1+1,t+2+1+1+1,o.length,o.length+2,o.length+3,o.length+4,by omega,rfl,rfl,rfl,rfl,rfl,rfl⟩
end
section
attribute [local go_sem] nT lR Nat.mul_one Nat.succ_ne_zero zA zL decide_false decide_true Qu
def kG (fmt:Int→List UInt8) (v0 v1 v2 v3 v4:Nat) (L:List Nd):List (Option Ob) :=
 [some (.map v1 (Qhs 0 L)),some (.arr v0 81 [.sl 2 v2 0 6 L.length none,.mp 0 v1,.sl 3 v3 0 1 L.length none,.sl 4 v4 0 1 L.length none]),some (.arr v2 51 (ndC L)),some (.arr v3 3 ((Qlt L).map (V.int .i64))),some (.arr v4 3 ((Qlc fmt L).map (V.int .i64)))]
theorem Qgm (r:Nat→Nat):∀ (k:Nat) (L:List Nd),(Qhs k L).map (fun p=>(p.1,V.ren r p.2))=Qhs k L
 | _,[]=>rfl
 | k,d::l=>by simp only [Qhs,List.map_cons,Qgm r (k+1) l]; rw [V.ren_nameless _ rfl]
theorem Qmg (r:Nat→Nat) (L:List Nd):QkF r (ndC L)=ndC L:=Ym _ (QfX L)
theorem QiP (r:Nat→Nat) (L:List Int):QkF r (L.map (V.int .i64))=L.map (V.int .i64):=Ym _ (QaH L)
theorem Qo4 (k:Nat) (L:List Nd):YH k (ndC L)=true:=QR _ (QfX L)
theorem Qne (k:Nat) (L:List Int):YH k (L.map (V.int .i64))=true:=QR _ (QaH L)
theorem Qet {α:Type}:∀ (l:List α) (i:Nat) (x:α),l[i]?=some x→l.set i x=l
 | [],_,_,_=>rfl
 | a::l,0,x,h=>by simp at h; simp [h]
 | a::l,i+1,x,h=>by simp [Qet l i x (by simpa using h)]
variable {L:List Nd} {v0 v1 v2 v3 v4 t base:Nat} {fmt:Int→List UInt8}
theorem QPT {f:Nat} {args:List V} {r:V} {ex:List (Option Ob)} (h:C P G 5 f (.ptr 0 v0 0::args) ⟨t,gG fmt v0 v1 v2 v3 v4 L⟩ fun v σ=>v=r∧∃ t',t≤t'∧σ=⟨t',gG fmt v0 v1 v2 v3 v4 L⟩)
 (ha:Qb args=true) (hr:Qd r=true) :
 C P G base f (.ptr 1 v0 0::args) ⟨t,kG fmt v0 v1 v2 v3 v4 L++ex⟩ fun v σ=>v=r∧∃ t',t≤t'∧σ=⟨t',kG fmt v0 v1 v2 v3 v4 L++ex⟩:=by
 refine QD3 [1,0,2,3,4] h rfl (by decide) ?_ ?_ ?_ (lR _) ?_ ?_ fun v σ hv=>?_
 ·simp [Qxx,kG]
 ·simp [QuV,gG,gH,gS,kG,Ob.under,YH,V.under,Ob.ren,QkF,V.ren,rOf,Qgm,Qmg,QiP,Qo4,Qne,-List.all_eq_true,QgU]
 ·simp [QTS]
 ·simp [YH,V.under,gG,gH,QR _ ha]
 ·simp only [QkF,V.ren]
  rw [Ym _ ha]
  simp [rOf]
 ·obtain ⟨rfl,t',h1,rfl⟩:=hv
  refine ⟨by simp [gG,gH],V.ren_nameless _ hr,t',h1,?_⟩
  simp [Qgi,QeX,gG,gH,gS,kG,Ob.ren,QkF,V.ren,rOf,Qgm,Qmg,QiP]
theorem QjO (hT:Qf P tab) (F:Fmt P G) {ex:List (Option Ob)} (d:Nd) (hL:L.length≤1000000) (hn:i64 d.n) (ha:i64 d.a) :
 C P G 0 QbM [.ptr 1 v0 0,.agg d.cells] ⟨t,kG F.fmt v0 v1 v2 v3 v4 L++ex⟩ fun v σ=>v=.int .i64 (addN L d).1∧∃ t' v2' v3' v4',t≤t'∧σ=⟨t',kG F.fmt v0 v1 v2' v3' v4' (addN L d).2++ex⟩:=by
 refine QD3 [1,0,2,3,4] (c_AddG hT F (v0:=v0) (v1:=v1) (v2:=v2) (v3:=v3) (v4:=v4) d hL hn ha) rfl (by decide) ?_ ?_ ?_ (zL _) rfl ?_ fun v σ hv=>?_
 ·simp [Qxx,kG]
 ·simp [QuV,gG,gH,gS,kG,Ob.under,YH,V.under,Ob.ren,QkF,V.ren,rOf,Qgm,Qmg,QiP,Qo4,Qne,-List.all_eq_true,QgU]
 ·simp [QTS]
 ·simp [QkF,V.ren,rOf,kG,Nd.cells]
 ·obtain ⟨rfl,t',v2',v3',v4',h1,rfl⟩:=hv
  refine ⟨by simp [gG,gH],by simp [V.ren],t',v2',v3',v4',h1,?_⟩
  simp [Qgi,QeX,gG,gH,gS,kG,Ob.ren,QkF,V.ren,rOf,Qgm,Qmg,QiP]
theorem Qgn (hT:Qf P tab) {ex:List (Option Ob)} {id:Int} :
 C P G base Qa9 [.ptr 1 v0 0,.int .i64 id] ⟨t,kG fmt v0 v1 v2 v3 v4 L++ex⟩ fun v σ=>v=(if 0≤id∧id<L.length then .tup [.agg (L.getD id.toNat zeroNd).cells,.bool true] else .tup [.agg zeroNd.cells,.bool false])∧∃ t',t≤t'∧σ=⟨t',kG fmt v0 v1 v2 v3 v4 L++ex⟩ :=
 QPT (c_Node hT (lR _)) rfl (by split <;> rfl)
theorem k_Uses (hT:Qf P tab) (SO:Qe8 P) {ex:List (Option Ob)} (hL:L.length≤1000000) (hwf:gwf L) (roots:List Int) (z:Nat) (tight:Bool) (hz:z=1∨roots=[]) (hrl:roots.length≤9223372036854775806) :
 C P G base Qa8 [.ptr 1 v0 0,.lst z (roots.map (V.int .i64)) tight] ⟨t,kG fmt v0 v1 v2 v3 v4 L++ex⟩ fun v σ=>v=.lst 1 ((Qjp L roots).map (V.int .i64)) false∧∃ t',t≤t'∧σ=⟨t',kG fmt v0 v1 v2 v3 v4 L++ex⟩ :=
 QPT (c_Uses hT SO (lR _) hL hwf roots z tight hz hrl) rfl rfl
variable {x0 x1 x2 y x3 x4:Option Ob}
theorem kG_5 {ex:List (Option Ob)}:(kG fmt v0 v1 v2 v3 v4 L++x0::ex)[5]?=some x0:=rfl
theorem kG_6 {ex:List (Option Ob)}:(kG fmt v0 v1 v2 v3 v4 L++x0::x1::ex)[6]?=some x1:=rfl
theorem kG_7 {ex:List (Option Ob)}:(kG fmt v0 v1 v2 v3 v4 L++x0::x1::x2::ex)[7]?=some x2:=rfl
theorem kGs_7 {ex:List (Option Ob)}:(kG fmt v0 v1 v2 v3 v4 L++x0::x1::x2::ex).set 7 y=kG fmt v0 v1 v2 v3 v4 L++x0::x1::y::ex:=rfl
theorem kG_8 {ex:List (Option Ob)}:(kG fmt v0 v1 v2 v3 v4 L++x0::x1::x2::x3::ex)[8]?=some x3:=rfl
theorem kGs_8 {ex:List (Option Ob)}:(kG fmt v0 v1 v2 v3 v4 L++x0::x1::x2::x3::ex).set 8 y=kG fmt v0 v1 v2 v3 v4 L++x0::x1::x2::y::ex:=rfl
theorem kG_9 {ex:List (Option Ob)}:(kG fmt v0 v1 v2 v3 v4 L++x0::x1::x2::x3::x4::ex)[9]?=some x4:=rfl
theorem kGs_9 {ex:List (Option Ob)}:(kG fmt v0 v1 v2 v3 v4 L++x0::x1::x2::x3::x4::ex).set 9 y=kG fmt v0 v1 v2 v3 v4 L++x0::x1::x2::x3::y::ex:=rfl
theorem QiR {ex:List (Option Ob)}:(kG fmt v0 v1 v2 v3 v4 L++ex).length=5+ex.length:=by simp [kG]; omega
theorem QCB {ex:List (Option Ob)} {y:List (Option Ob)}:(kG fmt v0 v1 v2 v3 v4 L++ex)++y=kG fmt v0 v1 v2 v3 v4 L++(ex++y):=by simp
end
end Go.Proofs.YtbdhjeojcpgblaaGreatDoor
