/- Contracts of a graph that New has made, with other objects behind. -/
import Derived.Test.YtoeicjlflmmmcaaGreatDoorJ1
import Derived.Test.YtoeicjlflmmmcaaGreatDoorAmD
open Nat renaming reduceEqDiff → rq, reduceAdd → rA, reduceLeDiff → rL, reduceLT → rT, zero_add → zA, le_refl → lR, zero_le → zL, add_zero → aZ
open List renaming length_cons → lC, length_nil → lN, take_succ_cons → tSq, length_append → lA, nil_append → nA, cons_append → cA, append_assoc → aA, take_nil → tN, take_zero → tZ, length_map → lM
open Bool renaming not_false → nFq, not_true → nT
namespace Go.Proofs.YtoeicjlflmmmcaaGreatDoor
open Go Go.Am
set_option maxRecDepth 100000
variable {P:Program} {G:Nat→Option V}
set_option maxHeartbeats 1000000
section
attribute [local go_sem] nT lR Nat.mul_one Nat.succ_ne_zero zA zL decide_false decide_true Q3 Yr QKm QKl QKk QKj QKi QKh QKg QKf
def kG (fmt:Int→List UInt8) (v0 v1 v2 v3 v4:Nat) (L:List Nd):List (Option Ob) :=
 [some (.map v1 (QfX 0 L)),some (.arr v0 82 [.sl 2 v2 0 6 L.length none,.mp 0 v1,.sl 3 v3 0 1 L.length none,.sl 4 v4 0 1 L.length none]),some (.arr v2 39 (ndC L)),some (.arr v3 3 ((Qj4 L).map (V.int .i64))),some (.arr v4 3 ((QjZ fmt L).map (V.int .i64)))]
theorem Qe8 (r:Nat→Nat):∀ (k:Nat) (L:List Nd),(QfX k L).map (fun p=>(p.1,V.ren r p.2))=QfX k L
 | _,[]=>rfl
 | k,d::l=>by simp only [QfX,List.map_cons,Qe8 r (k+1) l]; rw [V.ren_nameless _ rfl]
theorem Qkv (r:Nat→Nat) (L:List Nd):QjE r (ndC L)=ndC L:=Yo _ (Qbi L)
theorem Qh4 (r:Nat→Nat) (L:List Int):QjE r (L.map (V.int .i64))=L.map (V.int .i64):=Yo _ (XR L)
theorem Qmr (k:Nat) (L:List Nd):QU k (ndC L)=true:=Ql _ (Qbi L)
theorem Qlh (k:Nat) (L:List Int):QU k (L.map (V.int .i64))=true:=Ql _ (XR L)
theorem Qdv {α:Type}:∀ (l:List α) (i:Nat) (x:α),l[i]?=some x→l.set i x=l
 | [],_,_,_=>rfl
 | a::l,0,x,h=>by simp at h; simp [h]
 | a::l,i+1,x,h=>by simp [Qdv l i x (by simpa using h)]
variable {L:List Nd} {v0 v1 v2 v3 v4 t base:Nat} {fmt:Int→List UInt8}
theorem QxB {f:Nat} {args:List V} {r:V} {ex:List (Option Ob)} (h:C P G 5 f (.ptr 0 v0 0::args) ⟨t,gG fmt v0 v1 v2 v3 v4 L⟩ fun v σ=>v=r∧∃ t',t≤t'∧σ=⟨t',gG fmt v0 v1 v2 v3 v4 L⟩)
 (ha:Qc args=true) (hr:Qf r=true) :
 C P G base f (.ptr 1 v0 0::args) ⟨t,kG fmt v0 v1 v2 v3 v4 L++ex⟩ fun v σ=>v=r∧∃ t',t≤t'∧σ=⟨t',kG fmt v0 v1 v2 v3 v4 L++ex⟩:=by
 refine QyR [1,0,2,3,4] h rfl (by decide) ?_ ?_ ?_ (lR _) ?_ ?_ fun v σ hv=>?_
 ·simp [Qt7,kG]
 ·simp [Qrr,gG,gH,gS,kG,Ob.under,QU,V.under,Ob.ren,QjE,V.ren,rOf,Qe8,Qkv,Qh4,Qmr,Qlh,-List.all_eq_true,QfW]
 ·simp [QMU]
 ·simp [QU,V.under,gG,gH,Ql _ ha]
 ·simp only [QjE,V.ren]
  rw [Yo _ ha]
  simp [rOf]
 ·obtain ⟨rfl,t',h1,rfl⟩:=hv
  refine ⟨by simp [gG,gH],V.ren_nameless _ hr,t',h1,?_⟩
  simp [QcE,Qb8,gG,gH,gS,kG,Ob.ren,QjE,V.ren,rOf,Qe8,Qkv,Qh4]
theorem k_Add (hT:Qe P tab) (F:Fmt P G) {ex:List (Option Ob)} (d:Nd) (hL:L.length≤1000000) (hn:i64 d.n) (ha:i64 d.a) :
 C P G 0 Qbt [.ptr 1 v0 0,.agg d.cells] ⟨t,kG F.fmt v0 v1 v2 v3 v4 L++ex⟩ fun v σ=>v=.int .i64 (addN L d).1∧∃ t' v2' v3' v4',t≤t'∧σ=⟨t',kG F.fmt v0 v1 v2' v3' v4' (addN L d).2++ex⟩:=by
 refine QyR [1,0,2,3,4] (c_AddG hT F (v0:=v0) (v1:=v1) (v2:=v2) (v3:=v3) (v4:=v4) d hL hn ha) rfl (by decide) ?_ ?_ ?_ (zL _) rfl ?_ fun v σ hv=>?_
 ·simp [Qt7,kG]
 ·simp [Qrr,gG,gH,gS,kG,Ob.under,QU,V.under,Ob.ren,QjE,V.ren,rOf,Qe8,Qkv,Qh4,Qmr,Qlh,-List.all_eq_true,QfW]
 ·simp [QMU]
 ·simp [QjE,V.ren,rOf,kG,Nd.cells]
 ·obtain ⟨rfl,t',v2',v3',v4',h1,rfl⟩:=hv
  refine ⟨by simp [gG,gH],by simp [V.ren],t',v2',v3',v4',h1,?_⟩
  simp [QcE,Qb8,gG,gH,gS,kG,Ob.ren,QjE,V.ren,rOf,Qe8,Qkv,Qh4]
theorem QxC (hT:Qe P tab) {ex:List (Option Ob)} :
 C P G base Y3 [.ptr 1 v0 0] ⟨t,kG fmt v0 v1 v2 v3 v4 L++ex⟩ fun v σ=>v=.int .i64 L.length∧∃ t',t≤t'∧σ=⟨t',kG fmt v0 v1 v2 v3 v4 L++ex⟩ :=
 QxB ((c_Size hT).conseq fun v σ h=>⟨h.1,t,lR _,h.2⟩) rfl rfl
theorem QIj (hT:Qe P tab) {ex:List (Option Ob)} {id:Int} :
 C P G base X1 [.ptr 1 v0 0,.int .i64 id] ⟨t,kG fmt v0 v1 v2 v3 v4 L++ex⟩ fun v σ=>v=(if 0≤id∧id<L.length then .tup [.agg (L.getD id.toNat zeroNd).cells,.bool true] else .tup [.agg zeroNd.cells,.bool false])∧∃ t',t≤t'∧σ=⟨t',kG fmt v0 v1 v2 v3 v4 L++ex⟩ :=
 QxB (c_Node hT (lR _)) rfl (by split <;> rfl)
theorem QIi (hT:Qe P tab) (SO:Q1 P) {ex:List (Option Ob)} (hL:L.length≤1000000) (hwf:gwf L) (roots:List Int) (z:Nat) (tight:Bool) (hz:z=1∨roots=[]) (hrl:roots.length≤9223372036854775806) :
 C P G base Y2 [.ptr 1 v0 0,.lst z (roots.map (V.int .i64)) tight] ⟨t,kG fmt v0 v1 v2 v3 v4 L++ex⟩ fun v σ=>v=.lst 1 ((XP L roots).map (V.int .i64)) false∧∃ t',t≤t'∧σ=⟨t',kG fmt v0 v1 v2 v3 v4 L++ex⟩ :=
 QxB (c_Uses hT SO (lR _) hL hwf roots z tight hz hrl) rfl rfl
variable {x0 y x1 x2 x3:Option Ob}
theorem kG_5 {ex:List (Option Ob)}:(kG fmt v0 v1 v2 v3 v4 L++x0::ex)[5]?=some x0:=rfl
theorem kGs_5 {ex:List (Option Ob)}:(kG fmt v0 v1 v2 v3 v4 L++x0::ex).set 5 y=kG fmt v0 v1 v2 v3 v4 L++y::ex:=rfl
theorem kG_6 {ex:List (Option Ob)}:(kG fmt v0 v1 v2 v3 v4 L++x0::x1::ex)[6]?=some x1:=rfl
theorem kGs_6 {ex:List (Option Ob)}:(kG fmt v0 v1 v2 v3 v4 L++x0::x1::ex).set 6 y=kG fmt v0 v1 v2 v3 v4 L++x0::y::ex:=rfl
theorem kG_7 {ex:List (Option Ob)}:(kG fmt v0 v1 v2 v3 v4 L++x0::x1::x2::ex)[7]?=some x2:=rfl
theorem kGs_7 {ex:List (Option Ob)}:(kG fmt v0 v1 v2 v3 v4 L++x0::x1::x2::ex).set 7 y=kG fmt v0 v1 v2 v3 v4 L++x0::x1::y::ex:=rfl
theorem kG_8 {ex:List (Option Ob)}:(kG fmt v0 v1 v2 v3 v4 L++x0::x1::x2::x3::ex)[8]?=some x3:=rfl
theorem QLv {ex:List (Option Ob)}:(kG fmt v0 v1 v2 v3 v4 L++x0::x1::x2::x3::ex).set 8 y=kG fmt v0 v1 v2 v3 v4 L++x0::x1::x2::y::ex:=rfl
theorem kG_9 {ex:List (Option Ob)} {x4:Option Ob}:(kG fmt v0 v1 v2 v3 v4 L++x0::x1::x2::x3::x4::ex)[9]?=some x4:=rfl
theorem Qh7 {ex:List (Option Ob)}:(kG fmt v0 v1 v2 v3 v4 L++ex).length=5+ex.length:=by simp [kG]; omega
theorem Qmu {ex:List (Option Ob)} {y:List (Option Ob)}:(kG fmt v0 v1 v2 v3 v4 L++ex)++y=kG fmt v0 v1 v2 v3 v4 L++(ex++y):=by simp
def Qh3 (l:List Nd):List Nd:=l.foldl (fun L d=>(addN L d).2) []
theorem Qpi (l:List Nd):∀ L:List Nd,(l.foldl (fun L d=>(addN L d).2) L).length≤L.length+l.length:=by
 induction l with
 | nil=>intro L; simp
 | cons d l ih =>
   intro L
   have h1:=ih (addN L d).2
   have h2:(addN L d).2.length≤L.length+1:=by
    unfold addN
    split
    ·split <;> simp
    ·simp
   simp only [List.foldl_cons,lC]; omega
end
end Go.Proofs.YtoeicjlflmmmcaaGreatDoor
namespace Go.Proofs.YtoeicjlflmmmcaaGreatDoor
open Go Go.Am
set_option maxRecDepth 100000
set_option maxHeartbeats 1000000
def okN (L:List Nd):Prop:=∀ (i:Nat) (d:Nd),L[i]?=some d→i64 d.n∧i64 d.a∧d.may i=true
variable {d:Nd}
theorem Qpg {i:Nat} (h:d.may i=true):(∀ p∈d.parts,0≤p∧p<i)∧(0≤d.op∧d.op≤16)∧(d.kind=1∨d.kind=2∨d.kind=3∨d.kind=4):=by
 simp only [Nd.may] at h
 refine ⟨?_,?_,?_⟩
 ·simp only [Nd.parts]; grind
 ·grind
 ·grind
variable {L:List Nd}
theorem okN.wf (h:okN L):gwf L:=fun i d hd p hp=>(Qpg (h i d hd).2.2).1 p hp
theorem QKV:okN []:=fun i d h=>by simp at h
theorem QzH (h:okN L) (hn:i64 d.n) (ha:i64 d.a):okN (addN L d).2:=by
 unfold addN
 split
 ·rename_i hm
  split
  ·exact h
  ·intro i e he
   by_cases hi:i<L.length
   ·rw [List.getElem?_append_left hi] at he; exact h i e he
   ·have:i=L.length:=by
     have:=(List.getElem?_eq_some_iff.1 he).1
     simp at this; omega
    subst this
    simp at he; subst he
    exact ⟨hn,ha,hm⟩
 ·exact h
theorem Qs1:∀ (l:List Nd) (L:List Nd),okN L→(∀ d∈l,i64 d.n∧i64 d.a)→okN (l.foldl (fun L d=>(addN L d).2) L)
 | [],_,h,_=>h
 | d::l,L,h,hl=>Qs1 l _ (QzH h (hl d (by simp)).1 (hl d (by simp)).2) fun e he=>hl e (by simp [he])
theorem Qm4 (l:List Nd) (hl:∀ d∈l,i64 d.n∧i64 d.a):okN (Qh3 l):=Qs1 l [] QKV hl
def pts (L:List Nd) (x:Int):List Int:=(L.getD x.toNat zeroNd).parts
variable {x:Int}
theorem Qk1 (h:gwf L) (h0:0≤x) (h1:x<L.length):∀ p∈pts L x,0≤p∧p<x:=by
 intro p hp
 obtain ⟨d,hd⟩:∃ d,L[x.toNat]?=some d:=⟨_,List.getElem?_eq_getElem (by omega)⟩
 have:pts L x=d.parts:=by simp [pts,List.getD_eq_getElem?_getD,hd]
 rw [this] at hp
 have:=h _ d hd p hp
 omega
theorem Qmc (L:List Nd) (f:Nat) (id:Int) (S:List Int):ZV L (f+1) id S=if 0≤id∧id<L.length∧id ∉ S then (pts L id).foldl (fun S p=>ZV L f p S) (S++[id]) else S:=rfl
theorem QkF {L:List Nd} {Q:Int→Prop} (hq:∀ x:Int,0≤x→x<L.length→Q x→∀ p∈pts L x,Q p):∀ (f:Nat) (id:Int) (S:List Int),(0≤id→id<L.length→Q id)→(∀ x∈S,Q x)→∀ x∈ZV L f id S,Q x
 | 0,_,_,_,hS=>hS
 | f+1,id,S,hid,hS=>by
   rw [Qmc]
   split
   ·rename_i hc
    have hfold:∀ (ps:List Int) (S:List Int),(∀ p∈ps,Q p)→(∀ x∈S,Q x)→∀ x∈ps.foldl (fun S p=>ZV L f p S) S,Q x:=fun ps=>by
     induction ps with
     | nil=>intro S _ hS; exact hS
     | cons p ps ih=>intro S hp hS; exact ih _ (fun q hq'=>hp q (by simp [hq'])) (QkF hq f p S (fun _ _=>hp p (by simp)) hS)
    refine hfold _ _ (hq id hc.1 hc.2.1 (hid hc.1 hc.2.1)) fun x hx=>?_
    simp only [List.mem_append,List.mem_singleton] at hx
    rcases hx with hx | rfl
    ·exact hS x hx
    ·exact hid hc.1 hc.2.1
   ·exact hS
theorem Qds {L:List Nd} (hwf:gwf L):∀ (f:Nat) (id:Int) (S:List Int),id.toNat<f→(∀ x∈S,x∈ZV L f id S)∧(0≤id→id<L.length→id∈ZV L f id S)∧∀ x∈ZV L f id S,x ∉ S→∀ p∈pts L x,p∈ZV L f id S
 | 0,_,_,h=>by omega
 | f+1,id,S,hf=>by
   have hfold:∀ (ps:List Int) (S:List Int),(∀ p∈ps,p.toNat<f)→(∀ x∈S,x∈ps.foldl (fun S p=>ZV L f p S) S)∧(∀ p∈ps,0≤p→p<L.length→p∈ps.foldl (fun S p=>ZV L f p S) S)∧∀ x∈ps.foldl (fun S p=>ZV L f p S) S,x ∉ S→∀ p∈pts L x,p∈ps.foldl (fun S p=>ZV L f p S) S:=fun ps=>by
    induction ps with
    | nil=>intro S _; exact ⟨fun x h=>h,fun p h=>by simp at h,fun x h h'=>absurd h h'⟩
    | cons q ps ih =>
      intro S hps
      obtain ⟨a1,a2,a3⟩:=Qds hwf f q S (hps q (by simp))
      obtain ⟨b1,b2,b3⟩:=ih (ZV L f q S) fun p hp=>hps p (by simp [hp])
      refine ⟨fun x hx=>b1 x (a1 x hx),fun p hp h0 h1=>?_,fun x hx hxS p hp=>?_⟩
      ·simp only [List.mem_cons] at hp
       rcases hp with rfl | hp
       ·exact b1 _ (a2 h0 h1)
       ·exact b2 p hp h0 h1
      ·by_cases hxw:x∈ZV L f q S
       ·exact b1 _ (a3 x hxw hxS p hp)
       ·exact b3 x hx hxw p hp
   rw [Qmc]
   split
   ·rename_i hc
    have hp:=Qk1 hwf hc.1 hc.2.1
    obtain ⟨a1,a2,a3⟩:=hfold (pts L id) (S++[id]) fun p hp'=>by have:=hp p hp'; omega
    refine ⟨fun x hx=>a1 x (by simp [hx]),fun _ _=>a1 id (by simp),fun x hx hxS p hpx=>?_⟩
    by_cases hxi:x=id
    ·subst hxi
     have:=hp p hpx
     exact a2 p hpx this.1 (by omega)
    ·exact a3 x hx (by simp [hxS,hxi]) p hpx
   ·rename_i hc
    refine ⟨fun x h=>h,fun h0 h1=>?_,fun x h h'=>absurd h h'⟩
    by_cases hm:id∈S
    ·exact hm
    ·exact absurd ⟨h0,h1,hm⟩ hc
variable {roots:List Int}
theorem Qnf:x∈XP L roots↔x∈walks L roots []:=by
 unfold XP; exact List.mem_mergeSort
theorem Qh2 {id:Int}:x∈XP L [id]↔x∈ZV L (id.toNat+1) id []:=by
 rw [Qnf]; simp [walks]
theorem QaF:∀ x∈XP L roots,0≤x∧x<L.length:=fun x hx =>
 (QhV L roots [] ⟨List.nodup_nil,by simp⟩).2 x (Qnf.1 hx)
theorem QfK:(XP L roots).Nodup :=
 (List.mergeSort_perm _ _).nodup_iff.2 (QhV L roots [] ⟨List.nodup_nil,by simp⟩).1
theorem QbZ:(XP L roots).Pairwise (·<·):=by
 have h1:(XP L roots).Pairwise (fun a b=>decide (a≤b)=true):=List.pairwise_mergeSort (fun a b c h1 h2=>by simp at h1 h2 ⊢; omega) (fun a b=>by simp; omega) _
 have h2:(XP L roots).Pairwise (·≠·):=QfK
 refine (h1.and h2).imp fun {a b} h=>?_
 have:=h.1
 simp at this
 have:=h.2
 omega
theorem QeI (hwf:gwf L) {id:Int} (h0:0≤id) (h1:id<L.length):id∈XP L [id]:=Qh2.2 ((Qds hwf (id.toNat+1) id [] (by omega)).2.1 h0 h1)
theorem QkH (hwf:gwf L) {id p:Int} (hx:x∈XP L [id]) (hp:p∈pts L x):p∈XP L [id] :=
 Qh2.2 ((Qds hwf (id.toNat+1) id [] (by omega)).2.2 x (Qh2.1 hx) (by simp) p hp)
theorem QoX {Q:Int→Prop} {id:Int} (hq:∀ x:Int,0≤x→x<L.length→Q x→∀ p∈pts L x,Q p) (hid:Q id):∀ x∈XP L [id],Q x:=fun x hx =>
 QkF hq _ id [] (fun _ _=>hid) (by simp) x (Qh2.1 hx)
theorem QKx (hwf:gwf L) {id:Int}:∀ x∈XP L [id],x≤id :=
 QoX (Q:=fun x=>x≤id) (fun x h0 h1 h p hp=>by have:=Qk1 hwf h0 h1 p hp; omega) (Int.le_refl _)
variable {P:Program} {G:Nat→Option V}
theorem under_nameless (k:Nat) {v:V} (h:Qf v=true):V.under k v=true:=by
 have:=Ql (k:=k) [v] (by simp [Qc,h])
 simpa [QU] using this
end Go.Proofs.YtoeicjlflmmmcaaGreatDoor
namespace Go.Am
open Go
variable {P:Program} {G:Nat→Option V}
set_option maxHeartbeats 1000000
end Go.Am
namespace Go.Proofs.YtoeicjlflmmmcaaGreatDoor
open Go Go.Am
set_option maxRecDepth 100000
variable {P:Program} {G:Nat→Option V}
set_option maxHeartbeats 1000000
variable {i:Nat}
theorem QbS {α:Type} {L:List α} {d:α} (h:L[i]?=some d):L.take (i+1)=L.take i++[d]:=by rw [List.take_add_one,h]; rfl
theorem Qpf {L:List Nd} (hwf:gwf L):∀ (roots S:List Int),(∀ x∈S,∀ p∈pts L x,p∈S)→∀ x,x∈walks L roots S↔x∈S∨∃ r∈roots,(0≤r∧r<L.length)∧x∈XP L [r]
 | [],S,_,x=>by simp [walks]
 | r::roots,S,hS,x=>by
   have hw:walks L (r::roots) S=walks L roots (ZV L (r.toNat+1) r S):=rfl
   obtain ⟨w1,w2,w3⟩:=Qds hwf (r.toNat+1) r S (by omega)
   have hc:∀ x∈ZV L (r.toNat+1) r S,∀ p∈pts L x,p∈ZV L (r.toNat+1) r S:=fun x hx p hp=>by
    by_cases h:x∈S
    ·exact w1 p (hS x h p hp)
    ·exact w3 x hx h p hp
   have hm:∀ x,x∈ZV L (r.toNat+1) r S↔x∈S∨((0≤r∧r<L.length)∧x∈XP L [r]):=fun x=>by
    constructor
    ·intro hx
     exact QkF (Q:=fun x=>x∈S∨((0≤r∧r<L.length)∧x∈XP L [r])) (fun z _ _ hz p hp=>by
      rcases hz with hz | ⟨hr,hz⟩
      ·exact .inl (hS z hz p hp)
      ·exact .inr ⟨hr,QkH hwf hz hp⟩) (r.toNat+1) r S (fun h0 h1=>.inr ⟨⟨h0,h1⟩,QeI hwf h0 h1⟩) (fun z hz=>.inl hz) x hx
    ·rintro (hx | ⟨hr,hx⟩)
     ·exact w1 x hx
     ·exact QoX (Q:=fun x=>x∈ZV L (r.toNat+1) r S) (fun z _ _ hz p hp=>hc z hz p hp) (w2 hr.1 hr.2) x hx
   rw [hw,Qpf hwf roots _ hc x,hm x]
   simp only [List.mem_cons,exists_eq_or_imp,or_assoc]
theorem Qrp {fmt:Int→List UInt8} {v0 v1 v2 v3 v4:Nat} {L:List Nd}:(kG fmt v0 v1 v2 v3 v4 L).length=5:=rfl
structure SortF (P:Program) (f:FuncId):Prop where
 some:∀ (blk off cap:Nat) (zs:List Int) (w:World),Go.Sort.Holds (Value.int .i64) w blk off zs.toArray→blk<w.heap.size→zs.length<4611686018427387904 →
  Calls P f #[.slice (some ⟨blk,off,none⟩) zs.length cap] w fun e w'=>e=.returned (.tuple #[])∧∃ n os,w'=Go.Sort.grow (Go.Sort.putRow (Value.int .i64) (Go.Sort.ahead w n) blk off (zs.mergeSort fun x y=>decide (x≤y)).toArray) os
 none:∀ (p:Option Addr) (cap:Nat) (w:World),Calls P f #[.slice p 0 cap] w fun e w'=>e=.returned (.tuple #[])∧w'=w
def nd (L:List Nd) (x:Int):Nd:=L.getD x.toNat zeroNd
def Qb (l:List Int):List V:=l.map (V.int .i64)
theorem Qi (l:List Int):(Qb l).length=l.length:=by simp [Qb]
theorem w_nx {n:Nat} (h:i<n) (hn:n≤9223372036854775807):IntKind.i64.wrap ((i:Int)+1)=((i+1:Nat):Int):=by rw [wrap_i64 (by omega) (by omega)]; rfl
theorem QL (l:List Int):Qc (Qb l)=true:=by
 induction l with
 | nil=>rfl
 | cons a l ih =>
   show (Qf (V.int .i64 a)&&Qc (Qb l))=true
   rw [ih]; rfl
theorem Qug {k w:Nat} (l:List Int):Zw k w (Qb l) (.sl k w 0 1 l.length none)=.lst 1 (Qb l) false:=by
 have:=QxU (k:=k) (w:=w) (sz:=1) (cs:=Qb l) (fun u hu=>by
  obtain ⟨a,_,rfl⟩:=List.mem_map.1 hu
  rfl)
 rwa [Qi] at this
section
attribute [local go_sem] lR zA beq_self_eq_true QhI QeG QCd QCc QCb QCa QCr QCq QCp QCo QCn QCm QCl QcY QbY QBT QBS QbX QBN QBM QbW QBL QBK QCx QCw QcX QCv QCu QcW QCt QCs QcV QB5 QB4 QcU QB3 QB2 QcT QB1 QB0 QcS QBZ QBY QcR QBX QBW QcQ QBV QBU QhH QBR QBQ QBP QBO QhG QeF QB9 QB8 QB7 QB6 QCk QCj QCi QCh QCg QCf QCe
def QMT (a b:Int):Int:=if b=0 then -1 else if b=-1 then IntKind.i64.wrap (0 - a) else IntKind.i64.wrap (a.tdiv b)
def QKM (a b:Int):Int:=if b=0 then a else if b=-1 then 0 else a.tmod b
def divN (a b:Int):Int:=if b=0 then -1 else IntKind.i64.wrap (IntKind.u64.wrap ((IntKind.u64.wrap a).tdiv (IntKind.u64.wrap b)))
def remN (a b:Int):Int:=if b=0 then a else IntKind.i64.wrap ((IntKind.u64.wrap a).tmod (IntKind.u64.wrap b))
def Two (P:Program) (G:Nat→Option V) (f:Nat) (d:Int→Int→Int):Prop:=∀ a b:Int,i64 a→i64 b→Pure P G f [.int .i64 a,.int .i64 b] fun v=>v=.int .i64 (d a b)
theorem QKv (hT:Qe P tab) (b:Bool):Pure P G Qmn [.bool b] fun v=>v=.int .i64 (if b=true then 1 else 0):=by
 intro t
 refine Qj 0 (zL _) (Qo hT QfN (by simp [QhH]) (Qm 1000 ?_))
 cases b
 ·simp -implicitDefEqProofs (disch:=omega) only [go_sem,↓reduceIte,reduceCtorEq,rq,Bool.false_eq_true,and_true]
 ·simp -implicitDefEqProofs (disch:=omega) only [go_sem,↓reduceIte,reduceCtorEq,rq,and_true]
theorem Qbq (x:Int):i64 (IntKind.i64.wrap x):=by
 simp [i64,IntKind.wrap,IntKind.signed,IntKind.bits]
 omega
theorem QMy (b:Int):0≤QkC IntKind.i64 b 63:=by
 have h1:(BitVec.ofInt IntKind.i64.bits b &&& BitVec.ofInt IntKind.i64.bits 63).toNat≤63:=by
  rw [BitVec.toNat_and]
  exact Nat.and_le_right
 rw [QkC,wrap_i64 (by omega) (by omega)]
 omega
theorem w_div (hT:Qe P tab):Two P G QiJ QMT:=by
 intro a b ha hb t
 refine Qj 0 (zL _) (Qo hT Qmf (by simp [QhI]) (Qm 1000 ?_))
 by_cases h0:b=0
 ·subst h0
  simp -implicitDefEqProofs (disch:=omega) only [go_sem,↓reduceIte,reduceCtorEq,rq,QMT]
 ·by_cases h1:b=-1
  ·subst h1
   simp -implicitDefEqProofs (disch:=omega) only [go_sem,↓reduceIte,reduceCtorEq,rq,QMT,false_implies,true_implies,true_and,and_true]
  ·have h0':decide (b=0)=false:=by simpa using h0
   have h1':decide (b=-1)=false:=by simpa using h1
   simp -implicitDefEqProofs (disch:=omega) only [go_sem,↓reduceIte,reduceCtorEq,rq,QMT,h0,h1,false_implies,true_implies,true_and,and_true]
theorem w_rem (hT:Qe P tab):Two P G QiI QKM:=by
 intro a b ha hb t
 refine Qj 0 (zL _) (Qo hT Qme (by simp [QhG]) (Qm 1000 ?_))
 by_cases h0:b=0
 ·subst h0
  simp -implicitDefEqProofs (disch:=omega) only [go_sem,↓reduceIte,reduceCtorEq,rq,QKM]
 ·by_cases h1:b=-1
  ·subst h1
   simp -implicitDefEqProofs (disch:=omega) only [go_sem,↓reduceIte,reduceCtorEq,rq,QKM,false_implies,true_implies,true_and,and_true]
  ·have h0':decide (b=0)=false:=by simpa using h0
   have h1':decide (b=-1)=false:=by simpa using h1
   simp -implicitDefEqProofs (disch:=omega) only [go_sem,↓reduceIte,reduceCtorEq,rq,QKM,h0,h1,false_implies,true_implies,true_and,and_true]
theorem QHV {b:Int} (hb:i64 b) (h:b≠0):IntKind.u64.wrap b≠0:=by
 unfold i64 at hb
 unfold IntKind.wrap
 simp only [IntKind.signed,IntKind.bits]
 omega
theorem w_divU (hT:Qe P tab):Two P G QgV divN:=by
 intro a b ha hb t
 refine Qj 0 (zL _) (Qo hT QkO (by simp [QeG]) (Qm 1000 ?_))
 by_cases h0:b=0
 ·subst h0
  simp -implicitDefEqProofs (disch:=omega) only [go_sem,↓reduceIte,reduceCtorEq,rq,divN]
 ·have h2:=QHV hb h0
  simp -implicitDefEqProofs (disch:=omega) only [go_sem,↓reduceIte,reduceCtorEq,rq,divN,h0,h2,false_implies,true_implies,true_and,and_true]
theorem w_remU (hT:Qe P tab):Two P G QgU remN:=by
 intro a b ha hb t
 refine Qj 0 (zL _) (Qo hT QkN (by simp [QeF]) (Qm 1000 ?_))
 by_cases h0:b=0
 ·subst h0
  simp -implicitDefEqProofs (disch:=omega) only [go_sem,↓reduceIte,reduceCtorEq,rq,remN]
 ·have h2:=QHV hb h0
  simp -implicitDefEqProofs (disch:=omega) only [go_sem,↓reduceIte,reduceCtorEq,rq,remN,h0,h2,false_implies,true_implies,true_and,and_true]
theorem w_S1 (hT:Qe P tab):Two P G Qe4 fun a b=>IntKind.i64.wrap (a+b):=by
 intro a b ha hb t
 refine Qj 0 (zL _) (Qo hT QjB (by simp [QcY]) (Qm 1000 ?_))
 simp -implicitDefEqProofs (disch:=omega) only [go_sem,↓reduceIte,reduceCtorEq,rq]
theorem w_S2 (hT:Qe P tab):Two P G Qe3 fun a b=>IntKind.i64.wrap (a - b):=by
 intro a b ha hb t
 refine Qj 0 (zL _) (Qo hT QjA (by simp [QcX]) (Qm 1000 ?_))
 simp -implicitDefEqProofs (disch:=omega) only [go_sem,↓reduceIte,reduceCtorEq,rq]
theorem w_S3 (hT:Qe P tab):Two P G Qe2 fun a b=>IntKind.i64.wrap (a * b):=by
 intro a b ha hb t
 refine Qj 0 (zL _) (Qo hT Qjz (by simp [QcW]) (Qm 1000 ?_))
 simp -implicitDefEqProofs (disch:=omega) only [go_sem,↓reduceIte,reduceCtorEq,rq]
theorem w_S4 (hT:Qe P tab):Two P G Qe1 fun a b=>QkC .i64 a b:=by
 intro a b ha hb t
 refine Qj 0 (zL _) (Qo hT Qjy (by simp [QcV]) (Qm 1000 ?_))
 simp -implicitDefEqProofs (disch:=omega) only [go_sem,↓reduceIte,reduceCtorEq,rq]
theorem w_S5 (hT:Qe P tab):Two P G Qe0 fun a b=>orI .i64 a b:=by
 intro a b ha hb t
 refine Qj 0 (zL _) (Qo hT Qjx (by simp [QcU]) (Qm 1000 ?_))
 simp -implicitDefEqProofs (disch:=omega) only [go_sem,↓reduceIte,reduceCtorEq,rq]
theorem w_S6 (hT:Qe P tab):Two P G QeZ fun a b=>QHP .i64 a b:=by
 intro a b ha hb t
 refine Qj 0 (zL _) (Qo hT Qjw (by simp [QcT]) (Qm 1000 ?_))
 simp -implicitDefEqProofs (disch:=omega) only [go_sem,↓reduceIte,reduceCtorEq,rq]
theorem w_S7 (hT:Qe P tab):Two P G QeY fun a b=>IntKind.i64.wrap (a * 2 ^ min (QkC .i64 b 63).toNat 64):=by
 intro a b ha hb t
 refine Qj 0 (zL _) (Qo hT Qjv (by simp [QcS]) (Qm 1000 ?_))
 simp -implicitDefEqProofs (disch:=omega) only [go_sem,↓reduceIte,reduceCtorEq,rq,QMy]
theorem w_S8 (hT:Qe P tab):Two P G QeX fun a b=>IntKind.i64.wrap ((IntKind.u64.wrap a).fdiv (2 ^ min (QkC .i64 b 63).toNat 64)):=by
 intro a b ha hb t
 refine Qj 0 (zL _) (Qo hT Qju (by simp [QcR]) (Qm 1000 ?_))
 simp -implicitDefEqProofs (disch:=omega) only [go_sem,↓reduceIte,reduceCtorEq,rq,QMy]
theorem w_S9 (hT:Qe P tab):Two P G QeW fun a b=>a.fdiv (2 ^ min (QkC .i64 b 63).toNat 64):=by
 intro a b ha hb t
 refine Qj 0 (zL _) (Qo hT Qjt (by simp [QcQ]) (Qm 1000 ?_))
 simp -implicitDefEqProofs (disch:=omega) only [go_sem,↓reduceIte,reduceCtorEq,rq,QMy]
theorem w_S10 (hT:Qe P tab):Two P G QdA fun a b=>if a<b then 1 else 0:=by
 intro a b ha hb t
 refine Qj 0 (zL _) (Qo hT QhO (by simp [QbY]) (Qm 1000 ?_))
 simp -implicitDefEqProofs (disch:=omega) only [go_sem,↓reduceIte,reduceCtorEq,rq]
 refine Qy hT QfN (QKv hT _) rfl 1000 ?_
 simp -implicitDefEqProofs (disch:=omega) only [go_sem,↓reduceIte,reduceCtorEq,rq,decide_eq_true_eq]
theorem w_S11 (hT:Qe P tab):Two P G Qdz fun a b=>if IntKind.u64.wrap a<IntKind.u64.wrap b then 1 else 0:=by
 intro a b ha hb t
 refine Qj 0 (zL _) (Qo hT QhN (by simp [QbX]) (Qm 1000 ?_))
 simp -implicitDefEqProofs (disch:=omega) only [go_sem,↓reduceIte,reduceCtorEq,rq]
 refine Qy hT QfN (QKv hT _) rfl 1000 ?_
 simp -implicitDefEqProofs (disch:=omega) only [go_sem,↓reduceIte,reduceCtorEq,rq,decide_eq_true_eq]
theorem w_S12 (hT:Qe P tab):Two P G Qdy fun a b=>if a=b then 1 else 0:=by
 intro a b ha hb t
 refine Qj 0 (zL _) (Qo hT QhM (by simp [QbW]) (Qm 1000 ?_))
 simp -implicitDefEqProofs (disch:=omega) only [go_sem,↓reduceIte,reduceCtorEq,rq]
 refine Qy hT QfN (QKv hT _) rfl 1000 ?_
 simp -implicitDefEqProofs (disch:=omega) only [go_sem,↓reduceIte,reduceCtorEq,rq]
end
section
attribute [local go_sem] nFq aZ lR Nat.one_mul zA zL Nat.zero_mul decide_false decide_true ge_iff_le Qix QEW QEV QEU QET QES YJ QCG QCF QCE QCD QCC
theorem Qmm:Value.nilFunc.oneCell'=true:=rfl
def fact (f:V) (b c:Bool) (n:Int) (d:Bool):V:=.agg [f,.bool b,.bool c,.int .i64 n,.bool d]
theorem of_0 (hT:Qe P tab):Pure P G Xv [.int .u8 0] fun v=>v=fact (.val .nilFunc) false false 0 false:=by
 intro t
 refine Qj 0 (zL _) (Qo hT XD (by simp [YJ]) (Qm 1000 ?_))
 simp -implicitDefEqProofs (disch:=omega) only [go_sem,↓reduceIte,reduceCtorEq,rA,rq,rL,rT,Int.reduceToNat,Int.reduceLE,lN,lC,nA,cA,Qmm,show IntKind.i64.wrap 0=0 from rfl,false_implies,and_true,fact]
theorem of_1 (hT:Qe P tab):Pure P G Xv [.int .u8 1] fun v=>v=fact (.fn (.func Qe4) [] []) true true (0) true:=by
 intro t
 refine Qj 0 (zL _) (Qo hT XD (by simp [YJ]) (Qm 1000 ?_))
 simp -implicitDefEqProofs (disch:=omega) only [go_sem,↓reduceIte,reduceCtorEq,rA,rq,rL,rT,Int.reduceToNat,Int.reduceLE,lN,lC,nA,cA,Qmm,show IntKind.i64.wrap 1=1 from rfl,false_implies,and_true,fact]
theorem of_2 (hT:Qe P tab):Pure P G Xv [.int .u8 2] fun v=>v=fact (.fn (.func Qe3) [] []) false false (0) true:=by
 intro t
 refine Qj 0 (zL _) (Qo hT XD (by simp [YJ]) (Qm 1000 ?_))
 simp -implicitDefEqProofs (disch:=omega) only [go_sem,↓reduceIte,reduceCtorEq,rA,rq,rL,rT,Nat.reduceMul,Int.reduceToNat,Int.reduceLE,lN,lC,nA,cA,Qmm,show IntKind.i64.wrap 2=2 from rfl,false_implies,and_true,fact]
theorem of_3 (hT:Qe P tab):Pure P G Xv [.int .u8 3] fun v=>v=fact (.fn (.func Qe2) [] []) true true (1) true:=by
 intro t
 refine Qj 0 (zL _) (Qo hT XD (by simp [YJ]) (Qm 1000 ?_))
 simp -implicitDefEqProofs (disch:=omega) only [go_sem,↓reduceIte,reduceCtorEq,rA,rq,rL,rT,Nat.reduceMul,Int.reduceToNat,Int.reduceLE,lN,lC,nA,cA,Qmm,show IntKind.i64.wrap 3=3 from rfl,false_implies,and_true,fact]
theorem of_4 (hT:Qe P tab):Pure P G Xv [.int .u8 4] fun v=>v=fact (.fn (.func QiJ) [] []) false false (1) true:=by
 intro t
 refine Qj 0 (zL _) (Qo hT XD (by simp [YJ]) (Qm 1000 ?_))
 simp -implicitDefEqProofs (disch:=omega) only [go_sem,↓reduceIte,reduceCtorEq,rA,rq,rL,rT,Nat.reduceMul,Int.reduceToNat,Int.reduceLE,lN,lC,nA,cA,Qmm,show IntKind.i64.wrap 4=4 from rfl,false_implies,and_true,fact]
theorem of_5 (hT:Qe P tab):Pure P G Xv [.int .u8 5] fun v=>v=fact (.fn (.func QiI) [] []) false false (0) true:=by
 intro t
 refine Qj 0 (zL _) (Qo hT XD (by simp [YJ]) (Qm 1000 ?_))
 simp -implicitDefEqProofs (disch:=omega) only [go_sem,↓reduceIte,reduceCtorEq,rA,rq,rL,rT,Nat.reduceMul,Int.reduceToNat,Int.reduceLE,lN,lC,nA,cA,Qmm,show IntKind.i64.wrap 5=5 from rfl,false_implies,and_true,fact]
theorem of_6 (hT:Qe P tab):Pure P G Xv [.int .u8 6] fun v=>v=fact (.fn (.func QgV) [] []) false false (1) true:=by
 intro t
 refine Qj 0 (zL _) (Qo hT XD (by simp [YJ]) (Qm 1000 ?_))
 simp -implicitDefEqProofs (disch:=omega) only [go_sem,↓reduceIte,reduceCtorEq,rA,rq,rL,rT,Nat.reduceMul,Int.reduceToNat,Int.reduceLE,lN,lC,nA,cA,Qmm,show IntKind.i64.wrap 6=6 from rfl,false_implies,and_true,fact]
theorem of_7 (hT:Qe P tab):Pure P G Xv [.int .u8 7] fun v=>v=fact (.fn (.func QgU) [] []) false false (0) true:=by
 intro t
 refine Qj 0 (zL _) (Qo hT XD (by simp [YJ]) (Qm 1000 ?_))
 simp -implicitDefEqProofs (disch:=omega) only [go_sem,↓reduceIte,reduceCtorEq,rA,rq,rL,rT,Nat.reduceMul,Int.reduceToNat,Int.reduceLE,lN,lC,nA,cA,Qmm,show IntKind.i64.wrap 7=7 from rfl,false_implies,and_true,fact]
theorem of_8 (hT:Qe P tab):Pure P G Xv [.int .u8 8] fun v=>v=fact (.fn (.func Qe1) [] []) true true (-1) true:=by
 intro t
 refine Qj 0 (zL _) (Qo hT XD (by simp [YJ]) (Qm 1000 ?_))
 simp -implicitDefEqProofs (disch:=omega) only [go_sem,↓reduceIte,reduceCtorEq,rA,rq,rL,rT,Nat.reduceMul,Int.reduceToNat,Int.reduceLE,lN,lC,nA,cA,Qmm,show IntKind.i64.wrap 8=8 from rfl,false_implies,and_true,fact]
theorem of_9 (hT:Qe P tab):Pure P G Xv [.int .u8 9] fun v=>v=fact (.fn (.func Qe0) [] []) true true (0) true:=by
 intro t
 refine Qj 0 (zL _) (Qo hT XD (by simp [YJ]) (Qm 1000 ?_))
 simp -implicitDefEqProofs (disch:=omega) only [go_sem,↓reduceIte,reduceCtorEq,rA,rq,rL,rT,Nat.reduceMul,Int.reduceToNat,Int.reduceLE,lN,lC,nA,cA,Qmm,show IntKind.i64.wrap 9=9 from rfl,false_implies,and_true,fact]
theorem of_10 (hT:Qe P tab):Pure P G Xv [.int .u8 10] fun v=>v=fact (.fn (.func QeZ) [] []) true true (0) true:=by
 intro t
 refine Qj 0 (zL _) (Qo hT XD (by simp [YJ]) (Qm 1000 ?_))
 simp -implicitDefEqProofs (disch:=omega) only [go_sem,↓reduceIte,reduceCtorEq,rA,rq,rL,rT,Nat.reduceMul,Int.reduceToNat,Int.reduceLE,lN,lC,nA,cA,Qmm,show IntKind.i64.wrap 10=10 from rfl,false_implies,and_true,fact]
theorem of_11 (hT:Qe P tab):Pure P G Xv [.int .u8 11] fun v=>v=fact (.fn (.func QeY) [] []) false false (0) true:=by
 intro t
 refine Qj 0 (zL _) (Qo hT XD (by simp [YJ]) (Qm 1000 ?_))
 simp -implicitDefEqProofs (disch:=omega) only [go_sem,↓reduceIte,reduceCtorEq,rA,rq,rL,rT,Nat.reduceMul,Int.reduceToNat,Int.reduceLE,lN,lC,nA,cA,Qmm,show IntKind.i64.wrap 11=11 from rfl,false_implies,and_true,fact]
theorem of_12 (hT:Qe P tab):Pure P G Xv [.int .u8 12] fun v=>v=fact (.fn (.func QeX) [] []) false false (0) true:=by
 intro t
 refine Qj 0 (zL _) (Qo hT XD (by simp [YJ]) (Qm 1000 ?_))
 simp -implicitDefEqProofs (disch:=omega) only [go_sem,↓reduceIte,reduceCtorEq,rA,rq,rL,rT,Nat.reduceMul,Int.reduceToNat,Int.reduceLE,lN,lC,nA,cA,Qmm,show IntKind.i64.wrap 12=12 from rfl,false_implies,and_true,fact]
theorem of_13 (hT:Qe P tab):Pure P G Xv [.int .u8 13] fun v=>v=fact (.fn (.func QeW) [] []) false false (0) true:=by
 intro t
 refine Qj 0 (zL _) (Qo hT XD (by simp [YJ]) (Qm 1000 ?_))
 simp -implicitDefEqProofs (disch:=omega) only [go_sem,↓reduceIte,reduceCtorEq,rA,rq,rL,rT,Nat.reduceMul,Int.reduceToNat,Int.reduceLE,lN,lC,nA,cA,Qmm,show IntKind.i64.wrap 13=13 from rfl,false_implies,and_true,fact]
theorem of_14 (hT:Qe P tab):Pure P G Xv [.int .u8 14] fun v=>v=fact (.fn (.func QdA) [] []) false false (0) false:=by
 intro t
 refine Qj 0 (zL _) (Qo hT XD (by simp [YJ]) (Qm 1000 ?_))
 simp -implicitDefEqProofs (disch:=omega) only [go_sem,↓reduceIte,reduceCtorEq,rA,rq,rL,rT,Nat.reduceMul,Int.reduceToNat,Int.reduceLE,lN,lC,nA,cA,Qmm,show IntKind.i64.wrap 14=14 from rfl,false_implies,and_true,fact]
theorem of_15 (hT:Qe P tab):Pure P G Xv [.int .u8 15] fun v=>v=fact (.fn (.func Qdz) [] []) false false (0) false:=by
 intro t
 refine Qj 0 (zL _) (Qo hT XD (by simp [YJ]) (Qm 1000 ?_))
 simp -implicitDefEqProofs (disch:=omega) only [go_sem,↓reduceIte,reduceCtorEq,rA,rq,rL,rT,Nat.reduceMul,Int.reduceToNat,Int.reduceLE,lN,lC,nA,cA,Qmm,show IntKind.i64.wrap 15=15 from rfl,false_implies,and_true,fact]
theorem of_16 (hT:Qe P tab):Pure P G Xv [.int .u8 16] fun v=>v=fact (.fn (.func Qdy) [] []) true false (0) false:=by
 intro t
 refine Qj 0 (zL _) (Qo hT XD (by simp [YJ]) (Qm 1000 ?_))
 simp -implicitDefEqProofs (disch:=omega) only [go_sem,↓reduceIte,reduceCtorEq,rA,rq,rL,rT,Nat.reduceMul,Int.reduceToNat,Int.reduceLE,lN,lC,nA,cA,Qmm,show IntKind.i64.wrap 16=16 from rfl,false_implies,and_true,fact]
variable {op a b:Int}
theorem QKX (hT:Qe P tab) (h:17≤op) (h2:op≤255):Pure P G Xv [.int .u8 op] fun v=>v=fact (.val .nilFunc) false false 0 false:=by
 intro t
 refine Qj 0 (zL _) (Qo hT XD (by simp [YJ]) (Qm 1000 ?_))
 have hw:IntKind.i64.wrap op=op:=wrap_i64 (by omega) (by omega)
 simp -implicitDefEqProofs (disch:=omega) only [go_sem,↓reduceIte,reduceCtorEq,rA,rq,rL,lN,lC,nA,cA,Qmm,hw,h,false_implies,and_true,fact]
def doW (op a b:Int):Int :=
 if op=1 then IntKind.i64.wrap (a+b) else
 if op=2 then IntKind.i64.wrap (a - b) else
 if op=3 then IntKind.i64.wrap (a * b) else
 if op=4 then QMT a b else
 if op=5 then QKM a b else
 if op=6 then divN a b else
 if op=7 then remN a b else
 if op=8 then QkC .i64 a b else
 if op=9 then orI .i64 a b else
 if op=10 then QHP .i64 a b else
 if op=11 then IntKind.i64.wrap (a * 2 ^ min (QkC .i64 b 63).toNat 64) else
 if op=12 then IntKind.i64.wrap ((IntKind.u64.wrap a).fdiv (2 ^ min (QkC .i64 b 63).toNat 64)) else
 if op=13 then a.fdiv (2 ^ min (QkC .i64 b 63).toNat 64) else
 if op=14 then (if a<b then 1 else 0) else
 if op=15 then (if IntKind.u64.wrap a<IntKind.u64.wrap b then 1 else 0) else
 if op=16 then (if a=b then 1 else 0) else
 0
theorem QIB (hT:Qe P tab) (h:Pure P G Xv [.int .u8 op] fun v=>v=fact (.val .nilFunc) false false 0 false):Pure P G QhX [.int .u8 op,.int .i64 a,.int .i64 b] fun v=>v=.int .i64 0:=by
 intro t
 refine Qj 0 (zL _) (Qo hT QkP (by simp [Qix]) (Qm 1000 ?_))
 simp -implicitDefEqProofs (disch:=omega) only [go_sem,↓reduceIte,reduceCtorEq,rA,rq]
 refine Qy hT XD h rfl 1000 ?_
 simp -implicitDefEqProofs (disch:=omega) only [go_sem,↓reduceIte,reduceCtorEq,rA,rq,rL,fact,lN,lC,nA,cA,Qmm,true_implies,and_true]
theorem Qgg (hT:Qe P tab) {n:Int} {f:Nat} {A:AF} {c1 c2 c3:Bool} {d:Int→Int→Int} (hf:tab f=some A) (h:Pure P G Xv [.int .u8 op] fun v=>v=fact (.fn (.func f) [] []) c1 c2 n c3) (hd:Pure P G f [.int .i64 a,.int .i64 b] fun v=>v=.int .i64 (d a b)):Pure P G QhX [.int .u8 op,.int .i64 a,.int .i64 b] fun v=>v=.int .i64 (d a b):=by
 intro t
 refine Qj 0 (zL _) (Qo hT QkP (by simp [Qix]) (Qm 1000 ?_))
 simp -implicitDefEqProofs (disch:=omega) only [go_sem,↓reduceIte,reduceCtorEq,rA,rq]
 refine Qy hT XD h rfl 1000 ?_
 simp -implicitDefEqProofs (disch:=omega) only [go_sem,↓reduceIte,reduceCtorEq,rA,rq,rL,fact,lN,lC,nA,cA,Qmm,true_implies,and_true]
 refine Qy hT hf hd rfl 1000 ?_
 simp -implicitDefEqProofs (disch:=omega) only [go_sem,↓reduceIte,reduceCtorEq,rq]
theorem c_Do (hT:Qe P tab) (h0:0≤op) (h1:op≤255) (ha:i64 a) (hb:i64 b):Pure P G QhX [.int .u8 op,.int .i64 a,.int .i64 b] fun v=>v=.int .i64 (doW op a b):=by
 by_cases hm:17≤op
 ·have e:doW op a b=0:=by unfold doW; repeat rw [if_neg (by omega)]
  rw [e]
  exact QIB hT (QKX hT hm h1)
 ·have:op=0∨op=1∨op=2∨op=3∨op=4∨op=5∨op=6∨op=7∨op=8∨op=9∨op=10∨op=11∨op=12∨op=13∨op=14∨op=15∨op=16:=by omega
  rcases this with rfl | rfl | rfl | rfl | rfl | rfl | rfl | rfl | rfl | rfl | rfl | rfl | rfl | rfl | rfl | rfl | rfl
  ·exact QIB hT (of_0 hT)
  ·exact Qgg hT QjB (of_1 hT) (w_S1 hT a b ha hb)
  ·exact Qgg hT QjA (of_2 hT) (w_S2 hT a b ha hb)
  ·exact Qgg hT Qjz (of_3 hT) (w_S3 hT a b ha hb)
  ·exact Qgg hT Qmf (of_4 hT) (w_div hT a b ha hb)
  ·exact Qgg hT Qme (of_5 hT) (w_rem hT a b ha hb)
  ·exact Qgg hT QkO (of_6 hT) (w_divU hT a b ha hb)
  ·exact Qgg hT QkN (of_7 hT) (w_remU hT a b ha hb)
  ·exact Qgg hT Qjy (of_8 hT) (w_S4 hT a b ha hb)
  ·exact Qgg hT Qjx (of_9 hT) (w_S5 hT a b ha hb)
  ·exact Qgg hT Qjw (of_10 hT) (w_S6 hT a b ha hb)
  ·exact Qgg hT Qjv (of_11 hT) (w_S7 hT a b ha hb)
  ·exact Qgg hT Qju (of_12 hT) (w_S8 hT a b ha hb)
  ·exact Qgg hT Qjt (of_13 hT) (w_S9 hT a b ha hb)
  ·exact Qgg hT QhO (of_14 hT) (w_S10 hT a b ha hb)
  ·exact Qgg hT QhN (of_15 hT) (w_S11 hT a b ha hb)
  ·exact Qgg hT QhM (of_16 hT) (w_S12 hT a b ha hb)
end
theorem Qb9 {l:List Int} {i:Nat} {x:Int} (h:l[i]?=some x):(Qb l).getD i .any=.int .i64 x:=by simp [Qb,List.getD_eq_getElem?_getD,h]
variable {cs:List V} {w:Nat}
theorem QAq {k:Nat} {l:List V} (h:∀ u∈l,∃ t i,u=V.int t i):l.map (Zw k w cs)=l:=by
 induction l with
 | nil=>rfl
 | cons u l ih =>
   obtain ⟨t,i,rfl⟩:=h u (by simp)
   rw [List.map_cons,ih fun u hu=>h u (by simp [hu])]
   rfl
theorem QK1 (L:List Nd):∀ u∈ndC L,∃ t i,u=V.int t i:=by
 intro u hu
 simp only [ndC,List.mem_flatten,List.mem_map] at hu
 obtain ⟨_,⟨d,_,rfl⟩,hu⟩:=hu
 simp only [Nd.cells,List.mem_cons,List.not_mem_nil,or_false] at hu
 rcases hu with rfl | rfl | rfl | rfl | rfl | rfl <;> exact ⟨_,_,rfl⟩
theorem Xj {base base' f:Nat} {args:List V} {σ:H} {Q:V→H→Prop} (hb:base≤base') (hl:base'≤σ.o.length) (h:C P G base' f args σ Q):C P G base f args σ Q :=
 fun I ρ w xs hR _ hc=>(h I ρ w xs hR hl hc).mono fun _ _ ⟨v,x,I',ρ',σ',h1,h2,h3,h4,h5,h6⟩=>⟨v,x,I',ρ',σ',h1,h2,h3,h4.weaken hR hb,by omega,h6⟩
theorem Qpp {k w:Nat} {cs:List V}:∀ (j:Nat) (L:List Nd),(QfX j L).map (fun p=>(p.1,Zw k w cs p.2))=QfX j L
 | _,[]=>rfl
 | j,d::l=>by simp only [QfX,List.map_cons,Qpp (j+1) l]; rfl
theorem kfrz {fmt:Int→List UInt8} {v0 v1 v2 v3 v4:Nat} {L:List Nd}:Q6 (Zw 5 w cs) 0 (kG fmt v0 v1 v2 v3 v4 L++[none])=kG fmt v0 v1 v2 v3 v4 L++[none]:=by
 simp only [kG,cA,nA,Q6,Option.map_some,Option.map_none,Ob.mapV,Qpp,QAq (QK1 L),List.map_map]
 simp [Zw,Function.comp_def]
end Go.Proofs.YtoeicjlflmmmcaaGreatDoor
