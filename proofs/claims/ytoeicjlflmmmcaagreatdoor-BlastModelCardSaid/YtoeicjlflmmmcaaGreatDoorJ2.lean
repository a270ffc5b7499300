/- Contracts of a graph that New has made, with other objects behind. -/
import Derived.Test.YtoeicjlflmmmcaaGreatDoorJ1
import Derived.Test.YtoeicjlflmmmcaaGreatDoorAmD
open Nat renaming reduceEqDiff → rq, reduceAdd → rA, reduceLeDiff → rL, reduceLT → rT, zero_add → zA, le_refl → lR, zero_le → zL, add_zero → aZ
open List renaming length_cons → lC, length_nil → lN, take_succ_cons → tSq, length_append → lA, nil_append → nA, cons_append → cA, append_assoc → aA, take_nil → tN, take_zero → tZ, length_map → lM
open Bool renaming not_false → nFq, not_true → nT
namespace Go.Proofs.YtoeicjlflmmmcaaGreatDoor
open Go Go.Am
set_option maxRecDepth 100000
variable {P:Program} {G:Nat→Option V}
set_option maxHeartbeats 1000000
section
attribute [local go_sem] nT lR Nat.mul_one Nat.succ_ne_zero zA zL decide_false decide_true Xq XP QCx QCw QCv QCu QCt QCs QCr QCq
def kG (fmt:Int→List UInt8) (v0 v1 v2 v3 v4:Nat) (L:List Nd):List (Option Ob) :=
 [some (.map v1 (Qd6 0 L)),some (.arr v0 82 [.sl 2 v2 0 6 L.length none,.mp 0 v1,.sl 3 v3 0 1 L.length none,.sl 4 v4 0 1 L.length none]),some (.arr v2 39 (ndC L)),some (.arr v3 3 ((QhH L).map (V.int .i64))),some (.arr v4 3 ((QhA fmt L).map (V.int .i64)))]
theorem Qdn (r:Nat→Nat):∀ (k:Nat) (L:List Nd),(Qd6 k L).map (fun p=>(p.1,V.ren r p.2))=Qd6 k L
 | _,[]=>rfl
 | k,d::l=>by simp only [Qd6,List.map_cons,Qdn r (k+1) l]; rw [V.ren_nameless _ rfl]
theorem Qh1 (r:Nat→Nat) (L:List Nd):Qhh r (ndC L)=ndC L:=Ye _ (Qaj L)
theorem QfZ (r:Nat→Nat) (L:List Int):Qhh r (L.map (V.int .i64))=L.map (V.int .i64):=Ye _ (XN L)
theorem QjF (k:Nat) (L:List Nd):QI k (ndC L)=true:=Qi _ (Qaj L)
theorem QiE (k:Nat) (L:List Int):QI k (L.map (V.int .i64))=true:=Qi _ (XN L)
theorem Qb3 {α:Type}:∀ (l:List α) (i:Nat) (x:α),l[i]?=some x→l.set i x=l
 | [],_,_,_=>rfl
 | a::l,0,x,h=>by simp at h; simp [h]
 | a::l,i+1,x,h=>by simp [Qb3 l i x (by simpa using h)]
variable {L:List Nd} {v0 v1 v2 v3 v4 t base:Nat} {fmt:Int→List UInt8}
theorem QsC {f:Nat} {args:List V} {r:V} {ex:List (Option Ob)} (h:C P G 5 f (.ptr 0 v0 0::args) ⟨t,gG fmt v0 v1 v2 v3 v4 L⟩ fun v σ=>v=r∧∃ t',t≤t'∧σ=⟨t',gG fmt v0 v1 v2 v3 v4 L⟩)
 (ha:Qc args=true) (hr:Qd r=true) :
 C P G base f (.ptr 1 v0 0::args) ⟨t,kG fmt v0 v1 v2 v3 v4 L++ex⟩ fun v σ=>v=r∧∃ t',t≤t'∧σ=⟨t',kG fmt v0 v1 v2 v3 v4 L++ex⟩:=by
 refine QtP [1,0,2,3,4] h rfl (by decide) ?_ ?_ ?_ (lR _) ?_ ?_ fun v σ hv=>?_
 ·simp [Qp0,kG]
 ·simp [Qnh,gG,gH,gS,kG,Ob.under,QI,V.under,Ob.ren,Qhh,V.ren,rOf,Qdn,Qh1,QfZ,QjF,QiE,-List.all_eq_true,Qd5]
 ·simp [QEy]
 ·simp [QI,V.under,gG,gH,Qi _ ha]
 ·simp only [Qhh,V.ren]
  rw [Ye _ ha]
  simp [rOf]
 ·obtain ⟨rfl,t',h1,rfl⟩:=hv
  refine ⟨by simp [gG,gH],V.ren_nameless _ hr,t',h1,?_⟩
  simp [QbI,Qcy,gG,gH,gS,kG,Ob.ren,Qhh,V.ren,rOf,Qdn,Qh1,QfZ]
theorem k_Add (hT:Qe P tab) (F:Fmt P G) {ex:List (Option Ob)} (d:Nd) (hL:L.length≤1000000) (hn:i64 d.n) (ha:i64 d.a) :
 C P G 0 Qat [.ptr 1 v0 0,.agg d.cells] ⟨t,kG F.fmt v0 v1 v2 v3 v4 L++ex⟩ fun v σ=>v=.int .i64 (addN L d).1∧∃ t' v2' v3' v4',t≤t'∧σ=⟨t',kG F.fmt v0 v1 v2' v3' v4' (addN L d).2++ex⟩:=by
 refine QtP [1,0,2,3,4] (c_AddG hT F (v0:=v0) (v1:=v1) (v2:=v2) (v3:=v3) (v4:=v4) d hL hn ha) rfl (by decide) ?_ ?_ ?_ (zL _) rfl ?_ fun v σ hv=>?_
 ·simp [Qp0,kG]
 ·simp [Qnh,gG,gH,gS,kG,Ob.under,QI,V.under,Ob.ren,Qhh,V.ren,rOf,Qdn,Qh1,QfZ,QjF,QiE,-List.all_eq_true,Qd5]
 ·simp [QEy]
 ·simp [Qhh,V.ren,rOf,kG,Nd.cells]
 ·obtain ⟨rfl,t',v2',v3',v4',h1,rfl⟩:=hv
  refine ⟨by simp [gG,gH],by simp [V.ren],t',v2',v3',v4',h1,?_⟩
  simp [QbI,Qcy,gG,gH,gS,kG,Ob.ren,Qhh,V.ren,rOf,Qdn,Qh1,QfZ]
theorem k_Size (hT:Qe P tab) {ex:List (Option Ob)} :
 C P G base Zg [.ptr 1 v0 0] ⟨t,kG fmt v0 v1 v2 v3 v4 L++ex⟩ fun v σ=>v=.int .i64 L.length∧∃ t',t≤t'∧σ=⟨t',kG fmt v0 v1 v2 v3 v4 L++ex⟩ :=
 QsC ((c_Size hT).conseq fun v σ h=>⟨h.1,t,lR _,h.2⟩) rfl rfl
theorem QBJ (hT:Qe P tab) {ex:List (Option Ob)} {id:Int} :
 C P G base XR [.ptr 1 v0 0,.int .i64 id] ⟨t,kG fmt v0 v1 v2 v3 v4 L++ex⟩ fun v σ=>v=(if 0≤id∧id<L.length then .tup [.agg (L.getD id.toNat zeroNd).cells,.bool true] else .tup [.agg zeroNd.cells,.bool false])∧∃ t',t≤t'∧σ=⟨t',kG fmt v0 v1 v2 v3 v4 L++ex⟩ :=
 QsC (c_Node hT (lR _)) rfl (by split <;> rfl)
theorem QBI (hT:Qe P tab) (SO:Xb P) {ex:List (Option Ob)} (hL:L.length≤1000000) (hwf:gwf L) (roots:List Int) (z:Nat) (tight:Bool) (hz:z=1∨roots=[]) (hrl:roots.length≤9223372036854775806) :
 C P G base Ys [.ptr 1 v0 0,.lst z (roots.map (V.int .i64)) tight] ⟨t,kG fmt v0 v1 v2 v3 v4 L++ex⟩ fun v σ=>v=.lst 1 ((Xj L roots).map (V.int .i64)) false∧∃ t',t≤t'∧σ=⟨t',kG fmt v0 v1 v2 v3 v4 L++ex⟩ :=
 QsC (c_Uses hT SO (lR _) hL hwf roots z tight hz hrl) rfl rfl
variable {x0 y x1 x2 x3:Option Ob}
theorem kG_5 {ex:List (Option Ob)}:(kG fmt v0 v1 v2 v3 v4 L++x0::ex)[5]?=some x0:=rfl
theorem kGs_5 {ex:List (Option Ob)}:(kG fmt v0 v1 v2 v3 v4 L++x0::ex).set 5 y=kG fmt v0 v1 v2 v3 v4 L++y::ex:=rfl
theorem kG_6 {ex:List (Option Ob)}:(kG fmt v0 v1 v2 v3 v4 L++x0::x1::ex)[6]?=some x1:=rfl
theorem kGs_6 {ex:List (Option Ob)}:(kG fmt v0 v1 v2 v3 v4 L++x0::x1::ex).set 6 y=kG fmt v0 v1 v2 v3 v4 L++x0::y::ex:=rfl
theorem kG_7 {ex:List (Option Ob)}:(kG fmt v0 v1 v2 v3 v4 L++x0::x1::x2::ex)[7]?=some x2:=rfl
theorem kGs_7 {ex:List (Option Ob)}:(kG fmt v0 v1 v2 v3 v4 L++x0::x1::x2::ex).set 7 y=kG fmt v0 v1 v2 v3 v4 L++x0::x1::y::ex:=rfl
theorem kG_8 {ex:List (Option Ob)}:(kG fmt v0 v1 v2 v3 v4 L++x0::x1::x2::x3::ex)[8]?=some x3:=rfl
theorem QDr {ex:List (Option Ob)}:(kG fmt v0 v1 v2 v3 v4 L++x0::x1::x2::x3::ex).set 8 y=kG fmt v0 v1 v2 v3 v4 L++x0::x1::x2::y::ex:=rfl
theorem kG_9 {ex:List (Option Ob)} {x4:Option Ob}:(kG fmt v0 v1 v2 v3 v4 L++x0::x1::x2::x3::x4::ex)[9]?=some x4:=rfl
theorem Qf1 {ex:List (Option Ob)}:(kG fmt v0 v1 v2 v3 v4 L++ex).length=5+ex.length:=by simp [kG]; omega
theorem QjH {ex:List (Option Ob)} {y:List (Option Ob)}:(kG fmt v0 v1 v2 v3 v4 L++ex)++y=kG fmt v0 v1 v2 v3 v4 L++(ex++y):=by simp
def QgD (l:List Nd):List Nd:=l.foldl (fun L d=>(addN L d).2) []
theorem QlC (l:List Nd):∀ L:List Nd,(l.foldl (fun L d=>(addN L d).2) L).length≤L.length+l.length:=by
 induction l with
 | nil=>intro L; simp
 | cons d l ih =>
   intro L
   have h1:=ih (addN L d).2
   have h2:(addN L d).2.length≤L.length+1:=by
    unfold addN
    split
    ·split <;> simp
    ·simp
   simp only [List.foldl_cons,lC]; omega
end
end Go.Proofs.YtoeicjlflmmmcaaGreatDoor
namespace Go.Proofs.YtoeicjlflmmmcaaGreatDoor
open Go Go.Am
set_option maxRecDepth 100000
set_option maxHeartbeats 1000000
def okN (L:List Nd):Prop:=∀ (i:Nat) (d:Nd),L[i]?=some d→i64 d.n∧i64 d.a∧d.may i=true
variable {d:Nd}
theorem QlA {i:Nat} (h:d.may i=true):(∀ p∈d.parts,0≤p∧p<i)∧(0≤d.op∧d.op≤16)∧(d.kind=1∨d.kind=2∨d.kind=3∨d.kind=4):=by
 simp only [Nd.may] at h
 refine ⟨?_,?_,?_⟩
 ·simp only [Nd.parts]; grind
 ·grind
 ·grind
variable {L:List Nd}
theorem okN.wf (h:okN L):gwf L:=fun i d hd p hp=>(QlA (h i d hd).2.2).1 p hp
theorem QCS:okN []:=fun i d h=>by simp at h
theorem Quo (h:okN L) (hn:i64 d.n) (ha:i64 d.a):okN (addN L d).2:=by
 unfold addN
 split
 ·rename_i hm
  split
  ·exact h
  ·intro i e he
   by_cases hi:i<L.length
   ·rw [List.getElem?_append_left hi] at he; exact h i e he
   ·have:i=L.length:=by
     have:=(List.getElem?_eq_some_iff.1 he).1
     simp at this; omega
    subst this
    simp at he; subst he
    exact ⟨hn,ha,hm⟩
 ·exact h
theorem QoZ:∀ (l:List Nd) (L:List Nd),okN L→(∀ d∈l,i64 d.n∧i64 d.a)→okN (l.foldl (fun L d=>(addN L d).2) L)
 | [],_,h,_=>h
 | d::l,L,h,hl=>QoZ l _ (Quo h (hl d (by simp)).1 (hl d (by simp)).2) fun e he=>hl e (by simp [he])
theorem QoY (l:List Nd) (hl:∀ d∈l,i64 d.n∧i64 d.a):okN (QgD l):=QoZ l [] QCS hl
def pts (L:List Nd) (x:Int):List Int:=(L.getD x.toNat zeroNd).parts
variable {x:Int}
theorem Qjy (h:gwf L) (h0:0≤x) (h1:x<L.length):∀ p∈pts L x,0≤p∧p<x:=by
 intro p hp
 obtain ⟨d,hd⟩:∃ d,L[x.toNat]?=some d:=⟨_,List.getElem?_eq_getElem (by omega)⟩
 have:pts L x=d.parts:=by simp [pts,List.getD_eq_getElem?_getD,hd]
 rw [this] at hp
 have:=h _ d hd p hp
 omega
theorem Qjs (L:List Nd) (f:Nat) (id:Int) (S:List Int):Ze L (f+1) id S=if 0≤id∧id<L.length∧id ∉ S then (pts L id).foldl (fun S p=>Ze L f p S) (S++[id]) else S:=rfl
theorem Qh6 {L:List Nd} {Q:Int→Prop} (hq:∀ x:Int,0≤x→x<L.length→Q x→∀ p∈pts L x,Q p):∀ (f:Nat) (id:Int) (S:List Int),(0≤id→id<L.length→Q id)→(∀ x∈S,Q x)→∀ x∈Ze L f id S,Q x
 | 0,_,_,_,hS=>hS
 | f+1,id,S,hid,hS=>by
   rw [Qjs]
   split
   ·rename_i hc
    have hfold:∀ (ps:List Int) (S:List Int),(∀ p∈ps,Q p)→(∀ x∈S,Q x)→∀ x∈ps.foldl (fun S p=>Ze L f p S) S,Q x:=fun ps=>by
     induction ps with
     | nil=>intro S _ hS; exact hS
     | cons p ps ih=>intro S hp hS; exact ih _ (fun q hq'=>hp q (by simp [hq'])) (Qh6 hq f p S (fun _ _=>hp p (by simp)) hS)
    refine hfold _ _ (hq id hc.1 hc.2.1 (hid hc.1 hc.2.1)) fun x hx=>?_
    simp only [List.mem_append,List.mem_singleton] at hx
    rcases hx with hx | rfl
    ·exact hS x hx
    ·exact hid hc.1 hc.2.1
   ·exact hS
theorem QbX {L:List Nd} (hwf:gwf L):∀ (f:Nat) (id:Int) (S:List Int),id.toNat<f→(∀ x∈S,x∈Ze L f id S)∧(0≤id→id<L.length→id∈Ze L f id S)∧∀ x∈Ze L f id S,x ∉ S→∀ p∈pts L x,p∈Ze L f id S
 | 0,_,_,h=>by omega
 | f+1,id,S,hf=>by
   have hfold:∀ (ps:List Int) (S:List Int),(∀ p∈ps,p.toNat<f)→(∀ x∈S,x∈ps.foldl (fun S p=>Ze L f p S) S)∧(∀ p∈ps,0≤p→p<L.length→p∈ps.foldl (fun S p=>Ze L f p S) S)∧∀ x∈ps.foldl (fun S p=>Ze L f p S) S,x ∉ S→∀ p∈pts L x,p∈ps.foldl (fun S p=>Ze L f p S) S:=fun ps=>by
    induction ps with
    | nil=>intro S _; exact ⟨fun x h=>h,fun p h=>by simp at h,fun x h h'=>absurd h h'⟩
    | cons q ps ih =>
      intro S hps
      obtain ⟨a1,a2,a3⟩:=QbX hwf f q S (hps q (by simp))
      obtain ⟨b1,b2,b3⟩:=ih (Ze L f q S) fun p hp=>hps p (by simp [hp])
      refine ⟨fun x hx=>b1 x (a1 x hx),fun p hp h0 h1=>?_,fun x hx hxS p hp=>?_⟩
      ·simp only [List.mem_cons] at hp
       rcases hp with rfl | hp
       ·exact b1 _ (a2 h0 h1)
       ·exact b2 p hp h0 h1
      ·by_cases hxw:x∈Ze L f q S
       ·exact b1 _ (a3 x hxw hxS p hp)
       ·exact b3 x hx hxw p hp
   rw [Qjs]
   split
   ·rename_i hc
    have hp:=Qjy hwf hc.1 hc.2.1
    obtain ⟨a1,a2,a3⟩:=hfold (pts L id) (S++[id]) fun p hp'=>by have:=hp p hp'; omega
    refine ⟨fun x hx=>a1 x (by simp [hx]),fun _ _=>a1 id (by simp),fun x hx hxS p hpx=>?_⟩
    by_cases hxi:x=id
    ·subst hxi
     have:=hp p hpx
     exact a2 p hpx this.1 (by omega)
    ·exact a3 x hx (by simp [hxS,hxi]) p hpx
   ·rename_i hc
    refine ⟨fun x h=>h,fun h0 h1=>?_,fun x h h'=>absurd h h'⟩
    by_cases hm:id∈S
    ·exact hm
    ·exact absurd ⟨h0,h1,hm⟩ hc
variable {roots:List Int}
theorem Qkq:x∈Xj L roots↔x∈walks L roots []:=by
 unfold Xj; exact List.mem_mergeSort
theorem QfY {id:Int}:x∈Xj L [id]↔x∈Ze L (id.toNat+1) id []:=by
 rw [Qkq]; simp [walks]
theorem Qas:∀ x∈Xj L roots,0≤x∧x<L.length:=fun x hx =>
 (QfS L roots [] ⟨List.nodup_nil,by simp⟩).2 x (Qkq.1 hx)
theorem QdS:(Xj L roots).Nodup :=
 (List.mergeSort_perm _ _).nodup_iff.2 (QfS L roots [] ⟨List.nodup_nil,by simp⟩).1
theorem QbY:(Xj L roots).Pairwise (·<·):=by
 have h1:(Xj L roots).Pairwise (fun a b=>decide (a≤b)=true):=List.pairwise_mergeSort (fun a b c h1 h2=>by simp at h1 h2 ⊢; omega) (fun a b=>by simp; omega) _
 have h2:(Xj L roots).Pairwise (·≠·):=QdS
 refine (h1.and h2).imp fun {a b} h=>?_
 have:=h.1
 simp at this
 have:=h.2
 omega
theorem QfI (hwf:gwf L) {id:Int} (h0:0≤id) (h1:id<L.length):id∈Xj L [id]:=QfY.2 ((QbX hwf (id.toNat+1) id [] (by omega)).2.1 h0 h1)
theorem Qh8 (hwf:gwf L) {id p:Int} (hx:x∈Xj L [id]) (hp:p∈pts L x):p∈Xj L [id] :=
 QfY.2 ((QbX hwf (id.toNat+1) id [] (by omega)).2.2 x (QfY.1 hx) (by simp) p hp)
theorem QrS {Q:Int→Prop} {id:Int} (hq:∀ x:Int,0≤x→x<L.length→Q x→∀ p∈pts L x,Q p) (hid:Q id):∀ x∈Xj L [id],Q x:=fun x hx =>
 Qh6 hq _ id [] (fun _ _=>hid) (by simp) x (QfY.1 hx)
variable {P:Program} {G:Nat→Option V}
theorem under_nameless (k:Nat) {v:V} (h:Qd v=true):V.under k v=true:=by
 have:=Qi (k:=k) [v] (by simp [Qc,h])
 simpa [QI] using this
end Go.Proofs.YtoeicjlflmmmcaaGreatDoor
namespace Go.Am
open Go
variable {P:Program} {G:Nat→Option V}
set_option maxHeartbeats 1000000
end Go.Am
namespace Go.Proofs.YtoeicjlflmmmcaaGreatDoor
open Go Go.Am
set_option maxRecDepth 100000
variable {P:Program} {G:Nat→Option V}
set_option maxHeartbeats 1000000
variable {i:Nat}
theorem QaP {α:Type} {L:List α} {d:α} (h:L[i]?=some d):L.take (i+1)=L.take i++[d]:=by rw [List.take_add_one,h]; rfl
theorem Qlz {L:List Nd} (hwf:gwf L):∀ (roots S:List Int),(∀ x∈S,∀ p∈pts L x,p∈S)→∀ x,x∈walks L roots S↔x∈S∨∃ r∈roots,(0≤r∧r<L.length)∧x∈Xj L [r]
 | [],S,_,x=>by simp [walks]
 | r::roots,S,hS,x=>by
   have hw:walks L (r::roots) S=walks L roots (Ze L (r.toNat+1) r S):=rfl
   obtain ⟨w1,w2,w3⟩:=QbX hwf (r.toNat+1) r S (by omega)
   have hc:∀ x∈Ze L (r.toNat+1) r S,∀ p∈pts L x,p∈Ze L (r.toNat+1) r S:=fun x hx p hp=>by
    by_cases h:x∈S
    ·exact w1 p (hS x h p hp)
    ·exact w3 x hx h p hp
   have hm:∀ x,x∈Ze L (r.toNat+1) r S↔x∈S∨((0≤r∧r<L.length)∧x∈Xj L [r]):=fun x=>by
    constructor
    ·intro hx
     exact Qh6 (Q:=fun x=>x∈S∨((0≤r∧r<L.length)∧x∈Xj L [r])) (fun z _ _ hz p hp=>by
      rcases hz with hz | ⟨hr,hz⟩
      ·exact .inl (hS z hz p hp)
      ·exact .inr ⟨hr,Qh8 hwf hz hp⟩) (r.toNat+1) r S (fun h0 h1=>.inr ⟨⟨h0,h1⟩,QfI hwf h0 h1⟩) (fun z hz=>.inl hz) x hx
    ·rintro (hx | ⟨hr,hx⟩)
     ·exact w1 x hx
     ·exact QrS (Q:=fun x=>x∈Ze L (r.toNat+1) r S) (fun z _ _ hz p hp=>hc z hz p hp) (w2 hr.1 hr.2) x hx
   rw [hw,Qlz hwf roots _ hc x,hm x]
   simp only [List.mem_cons,exists_eq_or_imp,or_assoc]
theorem Qnf {fmt:Int→List UInt8} {v0 v1 v2 v3 v4:Nat} {L:List Nd}:(kG fmt v0 v1 v2 v3 v4 L).length=5:=rfl
structure SortF (P:Program) (f:FuncId):Prop where
 some:∀ (blk off cap:Nat) (zs:List Int) (w:World),Go.Sort.Holds (Value.int .i64) w blk off zs.toArray→blk<w.heap.size→zs.length<4611686018427387904 →
  Calls P f #[.slice (some ⟨blk,off,none⟩) zs.length cap] w fun e w'=>e=.returned (.tuple #[])∧∃ n os,w'=Go.Sort.grow (Go.Sort.putRow (Value.int .i64) (Go.Sort.ahead w n) blk off (zs.mergeSort fun x y=>decide (x≤y)).toArray) os
 none:∀ (p:Option Addr) (cap:Nat) (w:World),Calls P f #[.slice p 0 cap] w fun e w'=>e=.returned (.tuple #[])∧w'=w
def nd (L:List Nd) (x:Int):Nd:=L.getD x.toNat zeroNd
def Qb (l:List Int):List V:=l.map (V.int .i64)
theorem Qo (l:List Int):(Qb l).length=l.length:=by simp [Qb]
theorem w_nx {n:Nat} (h:i<n) (hn:n≤9223372036854775807):IntKind.i64.wrap ((i:Int)+1)=((i+1:Nat):Int):=by rw [wrap_i64 (by omega) (by omega)]; rfl
theorem QB (l:List Int):Qc (Qb l)=true:=by
 induction l with
 | nil=>rfl
 | cons a l ih =>
   show (Qd (V.int .i64 a)&&Qc (Qb l))=true
   rw [ih]; rfl
theorem QsV {k w:Nat} (l:List Int):Zt k w (Qb l) (.sl k w 0 1 l.length none)=.lst 1 (Qb l) false:=by
 have:=QsU (k:=k) (w:=w) (sz:=1) (cs:=Qb l) (fun u hu=>by
  obtain ⟨a,_,rfl⟩:=List.mem_map.1 hu
  rfl)
 rwa [Qo] at this
section
attribute [local go_sem] lR zA beq_self_eq_true QfG Qc0 Qws Qwr Qwq Qwp QwG QwF QwE QwD QwC QwB QwA Qbz QaW Qv8 Qv7 QaV Qv2 Qv1 QaU Qv0 QvZ QwM QwL Qby QwK QwJ Qbx QwI QwH Qbw Qwk Qwj Qbv Qwi Qwh Qbu Qwg Qwf Qbt Qwe Qwd Qbs Qwc Qwb Qbr Qwa Qv9 QfF Qv6 Qv5 Qv4 Qv3 QfE QcZ Qwo Qwn Qwm Qwl Qwz Qwy Qwx Qww Qwv Qwu Qwt
def QEx (a b:Int):Int:=if b=0 then -1 else if b=-1 then IntKind.i64.wrap (0 - a) else IntKind.i64.wrap (a.tdiv b)
def QCK (a b:Int):Int:=if b=0 then a else if b=-1 then 0 else a.tmod b
def divN (a b:Int):Int:=if b=0 then -1 else IntKind.i64.wrap (IntKind.u64.wrap ((IntKind.u64.wrap a).tdiv (IntKind.u64.wrap b)))
def remN (a b:Int):Int:=if b=0 then a else IntKind.i64.wrap ((IntKind.u64.wrap a).tmod (IntKind.u64.wrap b))
def Two (P:Program) (G:Nat→Option V) (f:Nat) (d:Int→Int→Int):Prop:=∀ a b:Int,i64 a→i64 b→Pure P G f [.int .i64 a,.int .i64 b] fun v=>v=.int .i64 (d a b)
theorem QCB (hT:Qe P tab) (b:Bool):Pure P G QjA [.bool b] fun v=>v=.int .i64 (if b=true then 1 else 0):=by
 intro t
 refine Qh 0 (zL _) (Qq hT QdV (by simp [QfF]) (Qn 1000 ?_))
 cases b
 ·simp -implicitDefEqProofs (disch:=omega) only [go_sem,↓reduceIte,reduceCtorEq,rq,Bool.false_eq_true,and_true]
 ·simp -implicitDefEqProofs (disch:=omega) only [go_sem,↓reduceIte,reduceCtorEq,rq,and_true]
theorem Qar (x:Int):i64 (IntKind.i64.wrap x):=by
 simp [i64,IntKind.wrap,IntKind.signed,IntKind.bits]
 omega
theorem QEc (b:Int):0≤Qh5 IntKind.i64 b 63:=by
 have h1:(BitVec.ofInt IntKind.i64.bits b &&& BitVec.ofInt IntKind.i64.bits 63).toNat≤63:=by
  rw [BitVec.toNat_and]
  exact Nat.and_le_right
 rw [Qh5,wrap_i64 (by omega) (by omega)]
 omega
theorem w_div (hT:Qe P tab):Two P G Qgy QEx:=by
 intro a b ha hb t
 refine Qh 0 (zL _) (Qq hT Qjv (by simp [QfG]) (Qn 1000 ?_))
 by_cases h0:b=0
 ·subst h0
  simp -implicitDefEqProofs (disch:=omega) only [go_sem,↓reduceIte,reduceCtorEq,rq,QEx]
 ·by_cases h1:b=-1
  ·subst h1
   simp -implicitDefEqProofs (disch:=omega) only [go_sem,↓reduceIte,reduceCtorEq,rq,QEx,false_implies,true_implies,true_and,and_true]
  ·have h0':decide (b=0)=false:=by simpa using h0
   have h1':decide (b=-1)=false:=by simpa using h1
   simp -implicitDefEqProofs (disch:=omega) only [go_sem,↓reduceIte,reduceCtorEq,rq,QEx,h0,h1,false_implies,true_implies,true_and,and_true]
theorem w_rem (hT:Qe P tab):Two P G Qgx QCK:=by
 intro a b ha hb t
 refine Qh 0 (zL _) (Qq hT Qju (by simp [QfE]) (Qn 1000 ?_))
 by_cases h0:b=0
 ·subst h0
  simp -implicitDefEqProofs (disch:=omega) only [go_sem,↓reduceIte,reduceCtorEq,rq,QCK]
 ·by_cases h1:b=-1
  ·subst h1
   simp -implicitDefEqProofs (disch:=omega) only [go_sem,↓reduceIte,reduceCtorEq,rq,QCK,false_implies,true_implies,true_and,and_true]
  ·have h0':decide (b=0)=false:=by simpa using h0
   have h1':decide (b=-1)=false:=by simpa using h1
   simp -implicitDefEqProofs (disch:=omega) only [go_sem,↓reduceIte,reduceCtorEq,rq,QCK,h0,h1,false_implies,true_implies,true_and,and_true]
theorem QBo {b:Int} (hb:i64 b) (h:b≠0):IntKind.u64.wrap b≠0:=by
 unfold i64 at hb
 unfold IntKind.wrap
 simp only [IntKind.signed,IntKind.bits]
 omega
theorem w_divU (hT:Qe P tab):Two P G QeV divN:=by
 intro a b ha hb t
 refine Qh 0 (zL _) (Qq hT Qid (by simp [Qc0]) (Qn 1000 ?_))
 by_cases h0:b=0
 ·subst h0
  simp -implicitDefEqProofs (disch:=omega) only [go_sem,↓reduceIte,reduceCtorEq,rq,divN]
 ·have h2:=QBo hb h0
  simp -implicitDefEqProofs (disch:=omega) only [go_sem,↓reduceIte,reduceCtorEq,rq,divN,h0,h2,false_implies,true_implies,true_and,and_true]
theorem w_remU (hT:Qe P tab):Two P G QeU remN:=by
 intro a b ha hb t
 refine Qh 0 (zL _) (Qq hT Qic (by simp [QcZ]) (Qn 1000 ?_))
 by_cases h0:b=0
 ·subst h0
  simp -implicitDefEqProofs (disch:=omega) only [go_sem,↓reduceIte,reduceCtorEq,rq,remN]
 ·have h2:=QBo hb h0
  simp -implicitDefEqProofs (disch:=omega) only [go_sem,↓reduceIte,reduceCtorEq,rq,remN,h0,h2,false_implies,true_implies,true_and,and_true]
theorem w_S1 (hT:Qe P tab):Two P G Qdj fun a b=>IntKind.i64.wrap (a+b):=by
 intro a b ha hb t
 refine Qh 0 (zL _) (Qq hT Qhe (by simp [Qbz]) (Qn 1000 ?_))
 simp -implicitDefEqProofs (disch:=omega) only [go_sem,↓reduceIte,reduceCtorEq,rq]
theorem w_S2 (hT:Qe P tab):Two P G Qdi fun a b=>IntKind.i64.wrap (a - b):=by
 intro a b ha hb t
 refine Qh 0 (zL _) (Qq hT Qhd (by simp [Qby]) (Qn 1000 ?_))
 simp -implicitDefEqProofs (disch:=omega) only [go_sem,↓reduceIte,reduceCtorEq,rq]
theorem w_S3 (hT:Qe P tab):Two P G Qdh fun a b=>IntKind.i64.wrap (a * b):=by
 intro a b ha hb t
 refine Qh 0 (zL _) (Qq hT Qhc (by simp [Qbx]) (Qn 1000 ?_))
 simp -implicitDefEqProofs (disch:=omega) only [go_sem,↓reduceIte,reduceCtorEq,rq]
theorem w_S4 (hT:Qe P tab):Two P G Qdg fun a b=>Qh5 .i64 a b:=by
 intro a b ha hb t
 refine Qh 0 (zL _) (Qq hT Qhb (by simp [Qbw]) (Qn 1000 ?_))
 simp -implicitDefEqProofs (disch:=omega) only [go_sem,↓reduceIte,reduceCtorEq,rq]
theorem w_S5 (hT:Qe P tab):Two P G Qdf fun a b=>orI .i64 a b:=by
 intro a b ha hb t
 refine Qh 0 (zL _) (Qq hT Qha (by simp [Qbv]) (Qn 1000 ?_))
 simp -implicitDefEqProofs (disch:=omega) only [go_sem,↓reduceIte,reduceCtorEq,rq]
theorem w_S6 (hT:Qe P tab):Two P G Qde fun a b=>QBk .i64 a b:=by
 intro a b ha hb t
 refine Qh 0 (zL _) (Qq hT Qg9 (by simp [Qbu]) (Qn 1000 ?_))
 simp -implicitDefEqProofs (disch:=omega) only [go_sem,↓reduceIte,reduceCtorEq,rq]
theorem w_S7 (hT:Qe P tab):Two P G Qdd fun a b=>IntKind.i64.wrap (a * 2 ^ min (Qh5 .i64 b 63).toNat 64):=by
 intro a b ha hb t
 refine Qh 0 (zL _) (Qq hT Qg8 (by simp [Qbt]) (Qn 1000 ?_))
 simp -implicitDefEqProofs (disch:=omega) only [go_sem,↓reduceIte,reduceCtorEq,rq,QEc]
theorem w_S8 (hT:Qe P tab):Two P G Qdc fun a b=>IntKind.i64.wrap ((IntKind.u64.wrap a).fdiv (2 ^ min (Qh5 .i64 b 63).toNat 64)):=by
 intro a b ha hb t
 refine Qh 0 (zL _) (Qq hT Qg7 (by simp [Qbs]) (Qn 1000 ?_))
 simp -implicitDefEqProofs (disch:=omega) only [go_sem,↓reduceIte,reduceCtorEq,rq,QEc]
theorem w_S9 (hT:Qe P tab):Two P G Qdb fun a b=>a.fdiv (2 ^ min (Qh5 .i64 b 63).toNat 64):=by
 intro a b ha hb t
 refine Qh 0 (zL _) (Qq hT Qg6 (by simp [Qbr]) (Qn 1000 ?_))
 simp -implicitDefEqProofs (disch:=omega) only [go_sem,↓reduceIte,reduceCtorEq,rq,QEc]
theorem w_S10 (hT:Qe P tab):Two P G Qb7 fun a b=>if a<b then 1 else 0:=by
 intro a b ha hb t
 refine Qh 0 (zL _) (Qq hT QfM (by simp [QaW]) (Qn 1000 ?_))
 simp -implicitDefEqProofs (disch:=omega) only [go_sem,↓reduceIte,reduceCtorEq,rq]
 refine QY hT QdV (QCB hT _) rfl 1000 ?_
 simp -implicitDefEqProofs (disch:=omega) only [go_sem,↓reduceIte,reduceCtorEq,rq,decide_eq_true_eq]
theorem w_S11 (hT:Qe P tab):Two P G Qb6 fun a b=>if IntKind.u64.wrap a<IntKind.u64.wrap b then 1 else 0:=by
 intro a b ha hb t
 refine Qh 0 (zL _) (Qq hT QfL (by simp [QaV]) (Qn 1000 ?_))
 simp -implicitDefEqProofs (disch:=omega) only [go_sem,↓reduceIte,reduceCtorEq,rq]
 refine QY hT QdV (QCB hT _) rfl 1000 ?_
 simp -implicitDefEqProofs (disch:=omega) only [go_sem,↓reduceIte,reduceCtorEq,rq,decide_eq_true_eq]
theorem w_S12 (hT:Qe P tab):Two P G Qb5 fun a b=>if a=b then 1 else 0:=by
 intro a b ha hb t
 refine Qh 0 (zL _) (Qq hT QfK (by simp [QaU]) (Qn 1000 ?_))
 simp -implicitDefEqProofs (disch:=omega) only [go_sem,↓reduceIte,reduceCtorEq,rq]
 refine QY hT QdV (QCB hT _) rfl 1000 ?_
 simp -implicitDefEqProofs (disch:=omega) only [go_sem,↓reduceIte,reduceCtorEq,rq]
end
section
attribute [local go_sem] nFq aZ lR Nat.one_mul zA zL Nat.zero_mul decide_false decide_true ge_iff_le Qgk QyZ QyY QyX QyW QyV X6 QwT QwS QwR QwQ QwP
theorem Qjz:Value.nilFunc.oneCell'=true:=rfl
def fact (f:V) (b c:Bool) (n:Int) (d:Bool):V:=.agg [f,.bool b,.bool c,.int .i64 n,.bool d]
theorem of_0 (hT:Qe P tab):Pure P G QX [.int .u8 0] fun v=>v=fact (.val .nilFunc) false false 0 false:=by
 intro t
 refine Qh 0 (zL _) (Qq hT Q5 (by simp [X6]) (Qn 1000 ?_))
 simp -implicitDefEqProofs (disch:=omega) only [go_sem,↓reduceIte,reduceCtorEq,rA,rq,rL,rT,Int.reduceToNat,Int.reduceLE,lN,lC,nA,cA,Qjz,show IntKind.i64.wrap 0=0 from rfl,false_implies,and_true,fact]
theorem of_1 (hT:Qe P tab):Pure P G QX [.int .u8 1] fun v=>v=fact (.fn (.func Qdj) [] []) true true (0) true:=by
 intro t
 refine Qh 0 (zL _) (Qq hT Q5 (by simp [X6]) (Qn 1000 ?_))
 simp -implicitDefEqProofs (disch:=omega) only [go_sem,↓reduceIte,reduceCtorEq,rA,rq,rL,rT,Int.reduceToNat,Int.reduceLE,lN,lC,nA,cA,Qjz,show IntKind.i64.wrap 1=1 from rfl,false_implies,and_true,fact]
theorem of_2 (hT:Qe P tab):Pure P G QX [.int .u8 2] fun v=>v=fact (.fn (.func Qdi) [] []) false false (0) true:=by
 intro t
 refine Qh 0 (zL _) (Qq hT Q5 (by simp [X6]) (Qn 1000 ?_))
 simp -implicitDefEqProofs (disch:=omega) only [go_sem,↓reduceIte,reduceCtorEq,rA,rq,rL,rT,Nat.reduceMul,Int.reduceToNat,Int.reduceLE,lN,lC,nA,cA,Qjz,show IntKind.i64.wrap 2=2 from rfl,false_implies,and_true,fact]
theorem of_3 (hT:Qe P tab):Pure P G QX [.int .u8 3] fun v=>v=fact (.fn (.func Qdh) [] []) true true (1) true:=by
 intro t
 refine Qh 0 (zL _) (Qq hT Q5 (by simp [X6]) (Qn 1000 ?_))
 simp -implicitDefEqProofs (disch:=omega) only [go_sem,↓reduceIte,reduceCtorEq,rA,rq,rL,rT,Nat.reduceMul,Int.reduceToNat,Int.reduceLE,lN,lC,nA,cA,Qjz,show IntKind.i64.wrap 3=3 from rfl,false_implies,and_true,fact]
theorem of_4 (hT:Qe P tab):Pure P G QX [.int .u8 4] fun v=>v=fact (.fn (.func Qgy) [] []) false false (1) true:=by
 intro t
 refine Qh 0 (zL _) (Qq hT Q5 (by simp [X6]) (Qn 1000 ?_))
 simp -implicitDefEqProofs (disch:=omega) only [go_sem,↓reduceIte,reduceCtorEq,rA,rq,rL,rT,Nat.reduceMul,Int.reduceToNat,Int.reduceLE,lN,lC,nA,cA,Qjz,show IntKind.i64.wrap 4=4 from rfl,false_implies,and_true,fact]
theorem of_5 (hT:Qe P tab):Pure P G QX [.int .u8 5] fun v=>v=fact (.fn (.func Qgx) [] []) false false (0) true:=by
 intro t
 refine Qh 0 (zL _) (Qq hT Q5 (by simp [X6]) (Qn 1000 ?_))
 simp -implicitDefEqProofs (disch:=omega) only [go_sem,↓reduceIte,reduceCtorEq,rA,rq,rL,rT,Nat.reduceMul,Int.reduceToNat,Int.reduceLE,lN,lC,nA,cA,Qjz,show IntKind.i64.wrap 5=5 from rfl,false_implies,and_true,fact]
theorem of_6 (hT:Qe P tab):Pure P G QX [.int .u8 6] fun v=>v=fact (.fn (.func QeV) [] []) false false (1) true:=by
 intro t
 refine Qh 0 (zL _) (Qq hT Q5 (by simp [X6]) (Qn 1000 ?_))
 simp -implicitDefEqProofs (disch:=omega) only [go_sem,↓reduceIte,reduceCtorEq,rA,rq,rL,rT,Nat.reduceMul,Int.reduceToNat,Int.reduceLE,lN,lC,nA,cA,Qjz,show IntKind.i64.wrap 6=6 from rfl,false_implies,and_true,fact]
theorem of_7 (hT:Qe P tab):Pure P G QX [.int .u8 7] fun v=>v=fact (.fn (.func QeU) [] []) false false (0) true:=by
 intro t
 refine Qh 0 (zL _) (Qq hT Q5 (by simp [X6]) (Qn 1000 ?_))
 simp -implicitDefEqProofs (disch:=omega) only [go_sem,↓reduceIte,reduceCtorEq,rA,rq,rL,rT,Nat.reduceMul,Int.reduceToNat,Int.reduceLE,lN,lC,nA,cA,Qjz,show IntKind.i64.wrap 7=7 from rfl,false_implies,and_true,fact]
theorem of_8 (hT:Qe P tab):Pure P G QX [.int .u8 8] fun v=>v=fact (.fn (.func Qdg) [] []) true true (-1) true:=by
 intro t
 refine Qh 0 (zL _) (Qq hT Q5 (by simp [X6]) (Qn 1000 ?_))
 simp -implicitDefEqProofs (disch:=omega) only [go_sem,↓reduceIte,reduceCtorEq,rA,rq,rL,rT,Nat.reduceMul,Int.reduceToNat,Int.reduceLE,lN,lC,nA,cA,Qjz,show IntKind.i64.wrap 8=8 from rfl,false_implies,and_true,fact]
theorem of_9 (hT:Qe P tab):Pure P G QX [.int .u8 9] fun v=>v=fact (.fn (.func Qdf) [] []) true true (0) true:=by
 intro t
 refine Qh 0 (zL _) (Qq hT Q5 (by simp [X6]) (Qn 1000 ?_))
 simp -implicitDefEqProofs (disch:=omega) only [go_sem,↓reduceIte,reduceCtorEq,rA,rq,rL,rT,Nat.reduceMul,Int.reduceToNat,Int.reduceLE,lN,lC,nA,cA,Qjz,show IntKind.i64.wrap 9=9 from rfl,false_implies,and_true,fact]
theorem of_10 (hT:Qe P tab):Pure P G QX [.int .u8 10] fun v=>v=fact (.fn (.func Qde) [] []) true true (0) true:=by
 intro t
 refine Qh 0 (zL _) (Qq hT Q5 (by simp [X6]) (Qn 1000 ?_))
 simp -implicitDefEqProofs (disch:=omega) only [go_sem,↓reduceIte,reduceCtorEq,rA,rq,rL,rT,Nat.reduceMul,Int.reduceToNat,Int.reduceLE,lN,lC,nA,cA,Qjz,show IntKind.i64.wrap 10=10 from rfl,false_implies,and_true,fact]
theorem of_11 (hT:Qe P tab):Pure P G QX [.int .u8 11] fun v=>v=fact (.fn (.func Qdd) [] []) false false (0) true:=by
 intro t
 refine Qh 0 (zL _) (Qq hT Q5 (by simp [X6]) (Qn 1000 ?_))
 simp -implicitDefEqProofs (disch:=omega) only [go_sem,↓reduceIte,reduceCtorEq,rA,rq,rL,rT,Nat.reduceMul,Int.reduceToNat,Int.reduceLE,lN,lC,nA,cA,Qjz,show IntKind.i64.wrap 11=11 from rfl,false_implies,and_true,fact]
theorem of_12 (hT:Qe P tab):Pure P G QX [.int .u8 12] fun v=>v=fact (.fn (.func Qdc) [] []) false false (0) true:=by
 intro t
 refine Qh 0 (zL _) (Qq hT Q5 (by simp [X6]) (Qn 1000 ?_))
 simp -implicitDefEqProofs (disch:=omega) only [go_sem,↓reduceIte,reduceCtorEq,rA,rq,rL,rT,Nat.reduceMul,Int.reduceToNat,Int.reduceLE,lN,lC,nA,cA,Qjz,show IntKind.i64.wrap 12=12 from rfl,false_implies,and_true,fact]
theorem of_13 (hT:Qe P tab):Pure P G QX [.int .u8 13] fun v=>v=fact (.fn (.func Qdb) [] []) false false (0) true:=by
 intro t
 refine Qh 0 (zL _) (Qq hT Q5 (by simp [X6]) (Qn 1000 ?_))
 simp -implicitDefEqProofs (disch:=omega) only [go_sem,↓reduceIte,reduceCtorEq,rA,rq,rL,rT,Nat.reduceMul,Int.reduceToNat,Int.reduceLE,lN,lC,nA,cA,Qjz,show IntKind.i64.wrap 13=13 from rfl,false_implies,and_true,fact]
theorem of_14 (hT:Qe P tab):Pure P G QX [.int .u8 14] fun v=>v=fact (.fn (.func Qb7) [] []) false false (0) false:=by
 intro t
 refine Qh 0 (zL _) (Qq hT Q5 (by simp [X6]) (Qn 1000 ?_))
 simp -implicitDefEqProofs (disch:=omega) only [go_sem,↓reduceIte,reduceCtorEq,rA,rq,rL,rT,Nat.reduceMul,Int.reduceToNat,Int.reduceLE,lN,lC,nA,cA,Qjz,show IntKind.i64.wrap 14=14 from rfl,false_implies,and_true,fact]
theorem of_15 (hT:Qe P tab):Pure P G QX [.int .u8 15] fun v=>v=fact (.fn (.func Qb6) [] []) false false (0) false:=by
 intro t
 refine Qh 0 (zL _) (Qq hT Q5 (by simp [X6]) (Qn 1000 ?_))
 simp -implicitDefEqProofs (disch:=omega) only [go_sem,↓reduceIte,reduceCtorEq,rA,rq,rL,rT,Nat.reduceMul,Int.reduceToNat,Int.reduceLE,lN,lC,nA,cA,Qjz,show IntKind.i64.wrap 15=15 from rfl,false_implies,and_true,fact]
theorem of_16 (hT:Qe P tab):Pure P G QX [.int .u8 16] fun v=>v=fact (.fn (.func Qb5) [] []) true false (0) false:=by
 intro t
 refine Qh 0 (zL _) (Qq hT Q5 (by simp [X6]) (Qn 1000 ?_))
 simp -implicitDefEqProofs (disch:=omega) only [go_sem,↓reduceIte,reduceCtorEq,rA,rq,rL,rT,Nat.reduceMul,Int.reduceToNat,Int.reduceLE,lN,lC,nA,cA,Qjz,show IntKind.i64.wrap 16=16 from rfl,false_implies,and_true,fact]
variable {op a b:Int}
theorem QCU (hT:Qe P tab) (h:17≤op) (h2:op≤255):Pure P G QX [.int .u8 op] fun v=>v=fact (.val .nilFunc) false false 0 false:=by
 intro t
 refine Qh 0 (zL _) (Qq hT Q5 (by simp [X6]) (Qn 1000 ?_))
 have hw:IntKind.i64.wrap op=op:=wrap_i64 (by omega) (by omega)
 simp -implicitDefEqProofs (disch:=omega) only [go_sem,↓reduceIte,reduceCtorEq,rA,rq,rL,lN,lC,nA,cA,Qjz,hw,h,false_implies,and_true,fact]
def doW (op a b:Int):Int :=
 if op=1 then IntKind.i64.wrap (a+b) else
 if op=2 then IntKind.i64.wrap (a - b) else
 if op=3 then IntKind.i64.wrap (a * b) else
 if op=4 then QEx a b else
 if op=5 then QCK a b else
 if op=6 then divN a b else
 if op=7 then remN a b else
 if op=8 then Qh5 .i64 a b else
 if op=9 then orI .i64 a b else
 if op=10 then QBk .i64 a b else
 if op=11 then IntKind.i64.wrap (a * 2 ^ min (Qh5 .i64 b 63).toNat 64) else
 if op=12 then IntKind.i64.wrap ((IntKind.u64.wrap a).fdiv (2 ^ min (Qh5 .i64 b 63).toNat 64)) else
 if op=13 then a.fdiv (2 ^ min (Qh5 .i64 b 63).toNat 64) else
 if op=14 then (if a<b then 1 else 0) else
 if op=15 then (if IntKind.u64.wrap a<IntKind.u64.wrap b then 1 else 0) else
 if op=16 then (if a=b then 1 else 0) else
 0
theorem QB1 (hT:Qe P tab) (h:Pure P G QX [.int .u8 op] fun v=>v=fact (.val .nilFunc) false false 0 false):Pure P G QfT [.int .u8 op,.int .i64 a,.int .i64 b] fun v=>v=.int .i64 0:=by
 intro t
 refine Qh 0 (zL _) (Qq hT Qie (by simp [Qgk]) (Qn 1000 ?_))
 simp -implicitDefEqProofs (disch:=omega) only [go_sem,↓reduceIte,reduceCtorEq,rA,rq]
 refine QY hT Q5 h rfl 1000 ?_
 simp -implicitDefEqProofs (disch:=omega) only [go_sem,↓reduceIte,reduceCtorEq,rA,rq,rL,fact,lN,lC,nA,cA,Qjz,true_implies,and_true]
theorem Qel (hT:Qe P tab) {n:Int} {f:Nat} {A:AF} {c1 c2 c3:Bool} {d:Int→Int→Int} (hf:tab f=some A) (h:Pure P G QX [.int .u8 op] fun v=>v=fact (.fn (.func f) [] []) c1 c2 n c3) (hd:Pure P G f [.int .i64 a,.int .i64 b] fun v=>v=.int .i64 (d a b)):Pure P G QfT [.int .u8 op,.int .i64 a,.int .i64 b] fun v=>v=.int .i64 (d a b):=by
 intro t
 refine Qh 0 (zL _) (Qq hT Qie (by simp [Qgk]) (Qn 1000 ?_))
 simp -implicitDefEqProofs (disch:=omega) only [go_sem,↓reduceIte,reduceCtorEq,rA,rq]
 refine QY hT Q5 h rfl 1000 ?_
 simp -implicitDefEqProofs (disch:=omega) only [go_sem,↓reduceIte,reduceCtorEq,rA,rq,rL,fact,lN,lC,nA,cA,Qjz,true_implies,and_true]
 refine QY hT hf hd rfl 1000 ?_
 simp -implicitDefEqProofs (disch:=omega) only [go_sem,↓reduceIte,reduceCtorEq,rq]
theorem c_Do (hT:Qe P tab) (h0:0≤op) (h1:op≤255) (ha:i64 a) (hb:i64 b):Pure P G QfT [.int .u8 op,.int .i64 a,.int .i64 b] fun v=>v=.int .i64 (doW op a b):=by
 by_cases hm:17≤op
 ·have e:doW op a b=0:=by unfold doW; repeat rw [if_neg (by omega)]
  rw [e]
  exact QB1 hT (QCU hT hm h1)
 ·have:op=0∨op=1∨op=2∨op=3∨op=4∨op=5∨op=6∨op=7∨op=8∨op=9∨op=10∨op=11∨op=12∨op=13∨op=14∨op=15∨op=16:=by omega
  rcases this with rfl | rfl | rfl | rfl | rfl | rfl | rfl | rfl | rfl | rfl | rfl | rfl | rfl | rfl | rfl | rfl | rfl
  ·exact QB1 hT (of_0 hT)
  ·exact Qel hT Qhe (of_1 hT) (w_S1 hT a b ha hb)
  ·exact Qel hT Qhd (of_2 hT) (w_S2 hT a b ha hb)
  ·exact Qel hT Qhc (of_3 hT) (w_S3 hT a b ha hb)
  ·exact Qel hT Qjv (of_4 hT) (w_div hT a b ha hb)
  ·exact Qel hT Qju (of_5 hT) (w_rem hT a b ha hb)
  ·exact Qel hT Qid (of_6 hT) (w_divU hT a b ha hb)
  ·exact Qel hT Qic (of_7 hT) (w_remU hT a b ha hb)
  ·exact Qel hT Qhb (of_8 hT) (w_S4 hT a b ha hb)
  ·exact Qel hT Qha (of_9 hT) (w_S5 hT a b ha hb)
  ·exact Qel hT Qg9 (of_10 hT) (w_S6 hT a b ha hb)
  ·exact Qel hT Qg8 (of_11 hT) (w_S7 hT a b ha hb)
  ·exact Qel hT Qg7 (of_12 hT) (w_S8 hT a b ha hb)
  ·exact Qel hT Qg6 (of_13 hT) (w_S9 hT a b ha hb)
  ·exact Qel hT QfM (of_14 hT) (w_S10 hT a b ha hb)
  ·exact Qel hT QfL (of_15 hT) (w_S11 hT a b ha hb)
  ·exact Qel hT QfK (of_16 hT) (w_S12 hT a b ha hb)
end
theorem Qio {l:List Int} {i:Nat} {x:Int} (h:l[i]?=some x):(Qb l).getD i .any=.int .i64 x:=by simp [Qb,List.getD_eq_getElem?_getD,h]
variable {cs:List V} {w:Nat}
theorem Qu4 {k:Nat} {l:List V} (h:∀ u∈l,∃ t i,u=V.int t i):l.map (Zt k w cs)=l:=by
 induction l with
 | nil=>rfl
 | cons u l ih =>
   obtain ⟨t,i,rfl⟩:=h u (by simp)
   rw [List.map_cons,ih fun u hu=>h u (by simp [hu])]
   rfl
theorem QC1 (L:List Nd):∀ u∈ndC L,∃ t i,u=V.int t i:=by
 intro u hu
 simp only [ndC,List.mem_flatten,List.mem_map] at hu
 obtain ⟨_,⟨d,_,rfl⟩,hu⟩:=hu
 simp only [Nd.cells,List.mem_cons,List.not_mem_nil,or_false] at hu
 rcases hu with rfl | rfl | rfl | rfl | rfl | rfl <;> exact ⟨_,_,rfl⟩
theorem YS {base base' f:Nat} {args:List V} {σ:H} {Q:V→H→Prop} (hb:base≤base') (hl:base'≤σ.o.length) (h:C P G base' f args σ Q):C P G base f args σ Q :=
 fun I ρ w xs hR _ hc=>(h I ρ w xs hR hl hc).mono fun _ _ ⟨v,x,I',ρ',σ',h1,h2,h3,h4,h5,h6⟩=>⟨v,x,I',ρ',σ',h1,h2,h3,h4.weaken hR hb,by omega,h6⟩
theorem QlJ {k w:Nat} {cs:List V}:∀ (j:Nat) (L:List Nd),(Qd6 j L).map (fun p=>(p.1,Zt k w cs p.2))=Qd6 j L
 | _,[]=>rfl
 | j,d::l=>by simp only [Qd6,List.map_cons,QlJ (j+1) l]; rfl
theorem kfrz {fmt:Int→List UInt8} {v0 v1 v2 v3 v4:Nat} {L:List Nd}:QT (Zt 5 w cs) 0 (kG fmt v0 v1 v2 v3 v4 L++[none])=kG fmt v0 v1 v2 v3 v4 L++[none]:=by
 simp only [kG,cA,nA,QT,Option.map_some,Option.map_none,Ob.mapV,QlJ,Qu4 (QC1 L),List.map_map]
 simp [Zt,Function.comp_def]
end Go.Proofs.YtoeicjlflmmmcaaGreatDoor
