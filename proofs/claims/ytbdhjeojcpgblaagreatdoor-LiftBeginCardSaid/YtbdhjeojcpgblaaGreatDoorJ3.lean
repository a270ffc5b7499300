/- Ours. -/
import Derived.Test.YtbdhjeojcpgblaaGreatDoorJ2
import Derived.Test.YtbdhjeojcpgblaaGreatDoorAmD
import Derived.Test.YtbdhjeojcpgblaaGreatDoorY
open Nat renaming reduceEqDiff → rq, reduceAdd → rA, reduceLeDiff → rL, reduceLT → rT, zero_add → zA, le_refl → lR, zero_le → zL, add_zero → aZ
open List renaming length_cons → lC, length_nil → lN, take_succ_cons → tSq, length_append → lA, nil_append → nA, cons_append → cA, append_assoc → aA, take_nil → tN, take_zero → tZ, length_map → lM
open Bool renaming not_false → nF, not_true → nT
namespace Go.Proofs.YtbdhjeojcpgblaaGreatDoor
open Go Go.Am
set_option maxRecDepth 100000
set_option maxHeartbeats 1000000
def okN (L:List Nd):Prop:=∀ (i:Nat) (d:Nd),L[i]?=some d→i64 d.n∧i64 d.a∧d.may i=true
variable {d:Nd}
theorem Qr4 {i:Nat} (h:d.may i=true):(∀ p∈d.parts,0≤p∧p<i)∧(0≤d.op∧d.op≤16)∧(d.kind=1∨d.kind=2∨d.kind=3∨d.kind=4):=by
 simp only [Nd.may] at h
 refine ⟨?_,?_,?_⟩
 ·simp only [Nd.parts]; grind
 ·grind
 ·grind
variable {L:List Nd}
theorem okN.wf (h:okN L):gwf L:=fun i d hd p hp=>(Qr4 (h i d hd).2.2).1 p hp
theorem Ql7 (h:okN L) (hn:i64 d.n) (ha:i64 d.a):okN (addN L d).2:=by
 unfold addN
 split
 ·rename_i hm
  split
  ·exact h
  ·intro i e he
   by_cases hi:i<L.length
   ·rw [List.getElem?_append_left hi] at he; exact h i e he
   ·have:i=L.length:=by
     have:=(List.getElem?_eq_some_iff.1 he).1
     simp at this; omega
    subst this
    simp at he; subst he
    exact ⟨hn,ha,hm⟩
 ·exact h
theorem Qml (L:List Nd) (d:Nd):L <+: (addN L d).2:=by
 unfold addN
 split
 ·split
  ·exact List.prefix_rfl
  ·exact List.prefix_append _ _
 ·exact List.prefix_rfl
def pts (L:List Nd) (x:Int):List Int:=(L.getD x.toNat zeroNd).parts
variable {x:Int}
theorem QPH (h:gwf L) (h0:0≤x) (h1:x<L.length):∀ p∈pts L x,0≤p∧p<x:=by
 intro p hp
 obtain ⟨d,hd⟩:∃ d,L[x.toNat]?=some d:=⟨_,List.getElem?_eq_getElem (by omega)⟩
 have:pts L x=d.parts:=by simp [pts,List.getD_eq_getElem?_getD,hd]
 rw [this] at hp
 have:=h _ d hd p hp
 omega
theorem QoE (L:List Nd) (f:Nat) (id:Int) (S:List Int):Qau L (f+1) id S=if 0≤id∧id<L.length∧id ∉ S then (pts L id).foldl (fun S p=>Qau L f p S) (S++[id]) else S:=rfl
theorem Qri {L:List Nd} {Q:Int→Prop} (hq:∀ x:Int,0≤x→x<L.length→Q x→∀ p∈pts L x,Q p):∀ (f:Nat) (id:Int) (S:List Int),(0≤id→id<L.length→Q id)→(∀ x∈S,Q x)→∀ x∈Qau L f id S,Q x
 | 0,_,_,_,hS=>hS
 | f+1,id,S,hid,hS=>by
   rw [QoE]
   split
   ·rename_i hc
    have hfold:∀ (ps:List Int) (S:List Int),(∀ p∈ps,Q p)→(∀ x∈S,Q x)→∀ x∈ps.foldl (fun S p=>Qau L f p S) S,Q x:=fun ps=>by
     induction ps with
     | nil=>intro S _ hS; exact hS
     | cons p ps ih=>intro S hp hS; exact ih _ (fun q hq'=>hp q (by simp [hq'])) (Qri hq f p S (fun _ _=>hp p (by simp)) hS)
    refine hfold _ _ (hq id hc.1 hc.2.1 (hid hc.1 hc.2.1)) fun x hx=>?_
    simp only [List.mem_append,List.mem_singleton] at hx
    rcases hx with hx | rfl
    ·exact hS x hx
    ·exact hid hc.1 hc.2.1
   ·exact hS
theorem Qmp {L:List Nd} (hwf:gwf L):∀ (f:Nat) (id:Int) (S:List Int),id.toNat<f→(∀ x∈S,x∈Qau L f id S)∧(0≤id→id<L.length→id∈Qau L f id S)∧∀ x∈Qau L f id S,x ∉ S→∀ p∈pts L x,p∈Qau L f id S
 | 0,_,_,h=>by omega
 | f+1,id,S,hf=>by
   have hfold:∀ (ps:List Int) (S:List Int),(∀ p∈ps,p.toNat<f)→(∀ x∈S,x∈ps.foldl (fun S p=>Qau L f p S) S)∧(∀ p∈ps,0≤p→p<L.length→p∈ps.foldl (fun S p=>Qau L f p S) S)∧∀ x∈ps.foldl (fun S p=>Qau L f p S) S,x ∉ S→∀ p∈pts L x,p∈ps.foldl (fun S p=>Qau L f p S) S:=fun ps=>by
    induction ps with
    | nil=>intro S _; exact ⟨fun x h=>h,fun p h=>by simp at h,fun x h h'=>absurd h h'⟩
    | cons q ps ih =>
      intro S hps
      obtain ⟨a1,a2,a3⟩:=Qmp hwf f q S (hps q (by simp))
      obtain ⟨b1,b2,b3⟩:=ih (Qau L f q S) fun p hp=>hps p (by simp [hp])
      refine ⟨fun x hx=>b1 x (a1 x hx),fun p hp h0 h1=>?_,fun x hx hxS p hp=>?_⟩
      ·simp only [List.mem_cons] at hp
       rcases hp with rfl | hp
       ·exact b1 _ (a2 h0 h1)
       ·exact b2 p hp h0 h1
      ·by_cases hxw:x∈Qau L f q S
       ·exact b1 _ (a3 x hxw hxS p hp)
       ·exact b3 x hx hxw p hp
   rw [QoE]
   split
   ·rename_i hc
    have hp:=QPH hwf hc.1 hc.2.1
    obtain ⟨a1,a2,a3⟩:=hfold (pts L id) (S++[id]) fun p hp'=>by have:=hp p hp'; omega
    refine ⟨fun x hx=>a1 x (by simp [hx]),fun _ _=>a1 id (by simp),fun x hx hxS p hpx=>?_⟩
    by_cases hxi:x=id
    ·subst hxi
     have:=hp p hpx
     exact a2 p hpx this.1 (by omega)
    ·exact a3 x hx (by simp [hxS,hxi]) p hpx
   ·rename_i hc
    refine ⟨fun x h=>h,fun h0 h1=>?_,fun x h h'=>absurd h h'⟩
    by_cases hm:id∈S
    ·exact hm
    ·exact absurd ⟨h0,h1,hm⟩ hc
variable {roots:List Int}
theorem QE4:x∈Qjp L roots↔x∈walks L roots []:=by
 unfold Qjp; exact List.mem_mergeSort
theorem Qr3 {id:Int}:x∈Qjp L [id]↔x∈Qau L (id.toNat+1) id []:=by
 rw [QE4]; simp [walks]
theorem Qxc:(Qjp L roots).Nodup :=
 (List.mergeSort_perm _ _).nodup_iff.2 (QmQ L roots [] ⟨List.nodup_nil,by simp⟩).1
theorem QBq (hwf:gwf L) {id:Int} (h0:0≤id) (h1:id<L.length):id∈Qjp L [id]:=Qr3.2 ((Qmp hwf (id.toNat+1) id [] (by omega)).2.1 h0 h1)
theorem QBr {Q:Int→Prop} {id:Int} (hq:∀ x:Int,0≤x→x<L.length→Q x→∀ p∈pts L x,Q p) (hid:Q id):∀ x∈Qjp L [id],Q x:=fun x hx =>
 Qri hq _ id [] (fun _ _=>hid) (by simp) x (Qr3.1 hx)
variable {P:Program} {G:Nat→Option V}
theorem under_nameless (k:Nat) {v:V} (h:Qd v=true):V.under k v=true:=by
 have:=QR (k:=k) [v] (by simp [Qb,h])
 simpa [YH] using this
end Go.Proofs.YtbdhjeojcpgblaaGreatDoor
namespace Go.Am
open Go
variable {P:Program} {G:Nat→Option V}
set_option maxHeartbeats 1000000
end Go.Am
namespace Go.Proofs.YtbdhjeojcpgblaaGreatDoor
open Go Go.Am
set_option maxRecDepth 100000
variable {P:Program} {G:Nat→Option V}
set_option maxHeartbeats 1000000
variable {i:Nat}
theorem QoG {α:Type} {L:List α} {d:α} (h:L[i]?=some d):L.take (i+1)=L.take i++[d]:=by rw [List.take_add_one,h]; rfl
theorem Qh {fmt:Int→List UInt8} {v0 v1 v2 v3 v4:Nat} {L:List Nd}:(kG fmt v0 v1 v2 v3 v4 L).length=5:=rfl
structure SortF (P:Program) (f:FuncId):Prop where
 some:∀ (blk off cap:Nat) (zs:List Int) (w:World),Go.Sort.Holds (Value.int .i64) w blk off zs.toArray→blk<w.heap.size→zs.length<4611686018427387904 →
  Calls P f #[.slice (some ⟨blk,off,none⟩) zs.length cap] w fun e w'=>e=.returned (.tuple #[])∧∃ n os,w'=Go.Sort.grow (Go.Sort.putRow (Value.int .i64) (Go.Sort.ahead w n) blk off (zs.mergeSort fun x y=>decide (x≤y)).toArray) os
 none:∀ (p:Option Addr) (cap:Nat) (w:World),Calls P f #[.slice p 0 cap] w fun e w'=>e=.returned (.tuple #[])∧w'=w
def nd (L:List Nd) (x:Int):Nd:=L.getD x.toNat zeroNd
def Xg (l:List Int):List V:=l.map (V.int .i64)
theorem Xl (l:List Int):(Xg l).length=l.length:=by simp [Xg]
theorem w_nx {n:Nat} (h:i<n) (hn:n≤9223372036854775807):IntKind.i64.wrap ((i:Int)+1)=((i+1:Nat):Int):=by rw [wrap_i64 (by omega) (by omega)]; rfl
def nH (ws wc:Nat) (ss cs:List Int):List (Option Ob):=[some (.arr ws 2 (Xg ss)),some (.arr wc 36 (Xg cs))]
theorem Qoc (l:List Int):Qb (Xg l)=true:=by
 induction l with
 | nil=>rfl
 | cons a l ih =>
   show (Qd (V.int .i64 a)&&Qb (Xg l))=true
   rw [ih]; rfl
theorem Qsa {k w:Nat} {cs:List V} (l:List Int):(Xg l).map (XR k w cs)=Xg l:=by
 simp [Xg,XR]
section
attribute [local go_sem] lR zA beq_self_eq_true Qia QfD QKb QKa QJ9 QJ8 QKp QKo QKn QKm QKl QKk QKj QdN Qct QJR QJQ Qcs QJL QJK Qcr QJJ QJI QKv QKu QdM QKt QKs QdL QKr QKq QdK QJ3 QJ2 QdJ QJ1 QJ0 QdI QJZ QJY QdH QJX QJW QdG QJV QJU QdF QJT QJS Qh9 QJP QJO QJN QJM Qh8 QfC QJ7 QJ6 QJ5 QJ4 QKi QKh QKg QKf QKe QKd QKc
def QQh (a b:Int):Int:=if b=0 then -1 else if b=-1 then IntKind.i64.wrap (0 - a) else IntKind.i64.wrap (a.tdiv b)
def QBQ (a b:Int):Int:=if b=0 then a else if b=-1 then 0 else a.tmod b
def divN (a b:Int):Int:=if b=0 then -1 else IntKind.i64.wrap (IntKind.u64.wrap ((IntKind.u64.wrap a).tdiv (IntKind.u64.wrap b)))
def QBR (a b:Int):Int:=if b=0 then a else IntKind.i64.wrap ((IntKind.u64.wrap a).tmod (IntKind.u64.wrap b))
def Two (P:Program) (G:Nat→Option V) (f:Nat) (d:Int→Int→Int):Prop:=∀ a b:Int,i64 a→i64 b→Pure P G f [.int .i64 a,.int .i64 b] fun v=>v=.int .i64 (d a b)
theorem QRi (hT:Qf P tab) (b:Bool):Pure P G QoV [.bool b] fun v=>v=.int .i64 (if b=true then 1 else 0):=by
 intro t
 refine Qi 0 (zL _) (Qk hT QgJ (by simp [Qh9]) (Qg 1000 ?_))
 cases b
 ·simp -implicitDefEqProofs (disch:=omega) only [go_sem,↓reduceIte,reduceCtorEq,rq,Bool.false_eq_true,and_true]
 ·simp -implicitDefEqProofs (disch:=omega) only [go_sem,↓reduceIte,reduceCtorEq,rq,and_true]
theorem Xo (x:Int):i64 (IntKind.i64.wrap x):=by
 simp [i64,IntKind.wrap,IntKind.signed,IntKind.bits]
 omega
theorem QTq (b:Int):0≤Qcb IntKind.i64 b 63:=by
 have h1:(BitVec.ofInt IntKind.i64.bits b &&& BitVec.ofInt IntKind.i64.bits 63).toNat≤63:=by
  rw [BitVec.toNat_and]
  exact Nat.and_le_right
 rw [Qcb,wrap_i64 (by omega) (by omega)]
 omega
theorem w_div (hT:Qf P tab):Two P G QjA QQh:=by
 intro a b ha hb t
 refine Qi 0 (zL _) (Qk hT QoJ (by simp [Qia]) (Qg 1000 ?_))
 by_cases h0:b=0
 ·subst h0
  simp -implicitDefEqProofs (disch:=omega) only [go_sem,↓reduceIte,reduceCtorEq,rq,QQh]
 ·by_cases h1:b=-1
  ·subst h1
   simp -implicitDefEqProofs (disch:=omega) only [go_sem,↓reduceIte,reduceCtorEq,rq,QQh,false_implies,true_implies,true_and,and_true]
  ·have h0':decide (b=0)=false:=by simpa using h0
   have h1':decide (b=-1)=false:=by simpa using h1
   simp -implicitDefEqProofs (disch:=omega) only [go_sem,↓reduceIte,reduceCtorEq,rq,QQh,h0,h1,false_implies,true_implies,true_and,and_true]
theorem w_rem (hT:Qf P tab):Two P G Qjz QBQ:=by
 intro a b ha hb t
 refine Qi 0 (zL _) (Qk hT QoI (by simp [Qh8]) (Qg 1000 ?_))
 by_cases h0:b=0
 ·subst h0
  simp -implicitDefEqProofs (disch:=omega) only [go_sem,↓reduceIte,reduceCtorEq,rq,QBQ]
 ·by_cases h1:b=-1
  ·subst h1
   simp -implicitDefEqProofs (disch:=omega) only [go_sem,↓reduceIte,reduceCtorEq,rq,QBQ,false_implies,true_implies,true_and,and_true]
  ·have h0':decide (b=0)=false:=by simpa using h0
   have h1':decide (b=-1)=false:=by simpa using h1
   simp -implicitDefEqProofs (disch:=omega) only [go_sem,↓reduceIte,reduceCtorEq,rq,QBQ,h0,h1,false_implies,true_implies,true_and,and_true]
theorem QPB {b:Int} (hb:i64 b) (h:b≠0):IntKind.u64.wrap b≠0:=by
 unfold i64 at hb
 unfold IntKind.wrap
 simp only [IntKind.signed,IntKind.bits]
 omega
theorem w_divU (hT:Qf P tab):Two P G QhF divN:=by
 intro a b ha hb t
 refine Qi 0 (zL _) (Qk hT Qmx (by simp [QfD]) (Qg 1000 ?_))
 by_cases h0:b=0
 ·subst h0
  simp -implicitDefEqProofs (disch:=omega) only [go_sem,↓reduceIte,reduceCtorEq,rq,divN]
 ·have h2:=QPB hb h0
  simp -implicitDefEqProofs (disch:=omega) only [go_sem,↓reduceIte,reduceCtorEq,rq,divN,h0,h2,false_implies,true_implies,true_and,and_true]
theorem w_remU (hT:Qf P tab):Two P G QhE QBR:=by
 intro a b ha hb t
 refine Qi 0 (zL _) (Qk hT Qmw (by simp [QfC]) (Qg 1000 ?_))
 by_cases h0:b=0
 ·subst h0
  simp -implicitDefEqProofs (disch:=omega) only [go_sem,↓reduceIte,reduceCtorEq,rq,QBR]
 ·have h2:=QPB hb h0
  simp -implicitDefEqProofs (disch:=omega) only [go_sem,↓reduceIte,reduceCtorEq,rq,QBR,h0,h2,false_implies,true_implies,true_and,and_true]
theorem w_S1 (hT:Qf P tab):Two P G Qf6 fun a b=>IntKind.i64.wrap (a+b):=by
 intro a b ha hb t
 refine Qi 0 (zL _) (Qk hT Qkz (by simp [QdN]) (Qg 1000 ?_))
 exact yb
theorem w_S2 (hT:Qf P tab):Two P G Qf5 fun a b=>IntKind.i64.wrap (a - b):=by
 intro a b ha hb t
 refine Qi 0 (zL _) (Qk hT Qky (by simp [QdM]) (Qg 1000 ?_))
 exact yb
theorem w_S3 (hT:Qf P tab):Two P G Qf4 fun a b=>IntKind.i64.wrap (a * b):=by
 intro a b ha hb t
 refine Qi 0 (zL _) (Qk hT Qkx (by simp [QdL]) (Qg 1000 ?_))
 exact yb
theorem w_S4 (hT:Qf P tab):Two P G Qf3 fun a b=>Qcb .i64 a b:=by
 intro a b ha hb t
 refine Qi 0 (zL _) (Qk hT Qkw (by simp [QdK]) (Qg 1000 ?_))
 exact yb
theorem w_S5 (hT:Qf P tab):Two P G Qf2 fun a b=>orI .i64 a b:=by
 intro a b ha hb t
 refine Qi 0 (zL _) (Qk hT Qkv (by simp [QdJ]) (Qg 1000 ?_))
 exact yb
theorem w_S6 (hT:Qf P tab):Two P G Qf1 fun a b=>QPx .i64 a b:=by
 intro a b ha hb t
 refine Qi 0 (zL _) (Qk hT Qku (by simp [QdI]) (Qg 1000 ?_))
 exact yb
theorem w_S7 (hT:Qf P tab):Two P G Qf0 fun a b=>IntKind.i64.wrap (a * 2 ^ min (Qcb .i64 b 63).toNat 64):=by
 intro a b ha hb t
 refine Qi 0 (zL _) (Qk hT Qkt (by simp [QdH]) (Qg 1000 ?_))
 simp -implicitDefEqProofs (disch:=omega) only [go_sem,↓reduceIte,reduceCtorEq,rq,QTq]
theorem w_S8 (hT:Qf P tab):Two P G QfZ fun a b=>IntKind.i64.wrap ((IntKind.u64.wrap a).fdiv (2 ^ min (Qcb .i64 b 63).toNat 64)):=by
 intro a b ha hb t
 refine Qi 0 (zL _) (Qk hT Qks (by simp [QdG]) (Qg 1000 ?_))
 simp -implicitDefEqProofs (disch:=omega) only [go_sem,↓reduceIte,reduceCtorEq,rq,QTq]
theorem w_S9 (hT:Qf P tab):Two P G QfY fun a b=>a.fdiv (2 ^ min (Qcb .i64 b 63).toNat 64):=by
 intro a b ha hb t
 refine Qi 0 (zL _) (Qk hT Qkr (by simp [QdF]) (Qg 1000 ?_))
 simp -implicitDefEqProofs (disch:=omega) only [go_sem,↓reduceIte,reduceCtorEq,rq,QTq]
theorem w_S10 (hT:Qf P tab):Two P G Qey fun a b=>if a<b then 1 else 0:=by
 intro a b ha hb t
 refine Qi 0 (zL _) (Qk hT Qif (by simp [Qct]) (Qg 1000 ?_))
 refine ya ?_
 refine Qj hT QgJ (QRi hT _) rfl 1000 ?_
 exact yy
theorem w_S11 (hT:Qf P tab):Two P G Qex fun a b=>if IntKind.u64.wrap a<IntKind.u64.wrap b then 1 else 0:=by
 intro a b ha hb t
 refine Qi 0 (zL _) (Qk hT Qie (by simp [Qcs]) (Qg 1000 ?_))
 refine ya ?_
 refine Qj hT QgJ (QRi hT _) rfl 1000 ?_
 exact yy
theorem w_S12 (hT:Qf P tab):Two P G Qew fun a b=>if a=b then 1 else 0:=by
 intro a b ha hb t
 refine Qi 0 (zL _) (Qk hT Qid (by simp [Qcr]) (Qg 1000 ?_))
 refine ya ?_
 refine Qj hT QgJ (QRi hT _) rfl 1000 ?_
 exact yb
end
section
attribute [local go_sem] nF aZ lR Nat.one_mul zA zL Nat.zero_mul decide_false decide_true ge_iff_le Qjl QMb QMa QL9 QL8 QL7 Yk QMi QMh QMg QMf QMe
theorem QoT:Value.nilFunc.oneCell'=true:=rfl
def fact (f:V) (b c:Bool) (n:Int) (d:Bool):V:=.agg [f,.bool b,.bool c,.int .i64 n,.bool d]
theorem of_0 (hT:Qf P tab):Pure P G QX [.int .u8 0] fun v=>v=fact (.val .nilFunc) false false 0 false:=by
 intro t
 refine Qi 0 (zL _) (Qk hT QO (by simp [Yk]) (Qg 1000 ?_))
 simp -implicitDefEqProofs (disch:=omega) only [go_sem,↓reduceIte,reduceCtorEq,rA,rq,rL,rT,Int.reduceToNat,Int.reduceLE,lN,lC,nA,cA,QoT,show IntKind.i64.wrap 0=0 from rfl,false_implies,and_true,fact]
theorem of_1 (hT:Qf P tab):Pure P G QX [.int .u8 1] fun v=>v=fact (.fn (.func Qf6) [] []) true true (0) true:=by
 intro t
 refine Qi 0 (zL _) (Qk hT QO (by simp [Yk]) (Qg 1000 ?_))
 simp -implicitDefEqProofs (disch:=omega) only [go_sem,↓reduceIte,reduceCtorEq,rA,rq,rL,rT,Int.reduceToNat,Int.reduceLE,lN,lC,nA,cA,QoT,show IntKind.i64.wrap 1=1 from rfl,false_implies,and_true,fact]
theorem of_2 (hT:Qf P tab):Pure P G QX [.int .u8 2] fun v=>v=fact (.fn (.func Qf5) [] []) false false (0) true:=by
 intro t
 refine Qi 0 (zL _) (Qk hT QO (by simp [Yk]) (Qg 1000 ?_))
 simp -implicitDefEqProofs (disch:=omega) only [go_sem,↓reduceIte,reduceCtorEq,rA,rq,rL,rT,Nat.reduceMul,Int.reduceToNat,Int.reduceLE,lN,lC,nA,cA,QoT,show IntKind.i64.wrap 2=2 from rfl,false_implies,and_true,fact]
theorem of_3 (hT:Qf P tab):Pure P G QX [.int .u8 3] fun v=>v=fact (.fn (.func Qf4) [] []) true true (1) true:=by
 intro t
 refine Qi 0 (zL _) (Qk hT QO (by simp [Yk]) (Qg 1000 ?_))
 simp -implicitDefEqProofs (disch:=omega) only [go_sem,↓reduceIte,reduceCtorEq,rA,rq,rL,rT,Nat.reduceMul,Int.reduceToNat,Int.reduceLE,lN,lC,nA,cA,QoT,show IntKind.i64.wrap 3=3 from rfl,false_implies,and_true,fact]
theorem of_4 (hT:Qf P tab):Pure P G QX [.int .u8 4] fun v=>v=fact (.fn (.func QjA) [] []) false false (1) true:=by
 intro t
 refine Qi 0 (zL _) (Qk hT QO (by simp [Yk]) (Qg 1000 ?_))
 simp -implicitDefEqProofs (disch:=omega) only [go_sem,↓reduceIte,reduceCtorEq,rA,rq,rL,rT,Nat.reduceMul,Int.reduceToNat,Int.reduceLE,lN,lC,nA,cA,QoT,show IntKind.i64.wrap 4=4 from rfl,false_implies,and_true,fact]
theorem of_5 (hT:Qf P tab):Pure P G QX [.int .u8 5] fun v=>v=fact (.fn (.func Qjz) [] []) false false (0) true:=by
 intro t
 refine Qi 0 (zL _) (Qk hT QO (by simp [Yk]) (Qg 1000 ?_))
 simp -implicitDefEqProofs (disch:=omega) only [go_sem,↓reduceIte,reduceCtorEq,rA,rq,rL,rT,Nat.reduceMul,Int.reduceToNat,Int.reduceLE,lN,lC,nA,cA,QoT,show IntKind.i64.wrap 5=5 from rfl,false_implies,and_true,fact]
theorem of_6 (hT:Qf P tab):Pure P G QX [.int .u8 6] fun v=>v=fact (.fn (.func QhF) [] []) false false (1) true:=by
 intro t
 refine Qi 0 (zL _) (Qk hT QO (by simp [Yk]) (Qg 1000 ?_))
 simp -implicitDefEqProofs (disch:=omega) only [go_sem,↓reduceIte,reduceCtorEq,rA,rq,rL,rT,Nat.reduceMul,Int.reduceToNat,Int.reduceLE,lN,lC,nA,cA,QoT,show IntKind.i64.wrap 6=6 from rfl,false_implies,and_true,fact]
theorem of_7 (hT:Qf P tab):Pure P G QX [.int .u8 7] fun v=>v=fact (.fn (.func QhE) [] []) false false (0) true:=by
 intro t
 refine Qi 0 (zL _) (Qk hT QO (by simp [Yk]) (Qg 1000 ?_))
 simp -implicitDefEqProofs (disch:=omega) only [go_sem,↓reduceIte,reduceCtorEq,rA,rq,rL,rT,Nat.reduceMul,Int.reduceToNat,Int.reduceLE,lN,lC,nA,cA,QoT,show IntKind.i64.wrap 7=7 from rfl,false_implies,and_true,fact]
theorem of_8 (hT:Qf P tab):Pure P G QX [.int .u8 8] fun v=>v=fact (.fn (.func Qf3) [] []) true true (-1) true:=by
 intro t
 refine Qi 0 (zL _) (Qk hT QO (by simp [Yk]) (Qg 1000 ?_))
 simp -implicitDefEqProofs (disch:=omega) only [go_sem,↓reduceIte,reduceCtorEq,rA,rq,rL,rT,Nat.reduceMul,Int.reduceToNat,Int.reduceLE,lN,lC,nA,cA,QoT,show IntKind.i64.wrap 8=8 from rfl,false_implies,and_true,fact]
theorem of_9 (hT:Qf P tab):Pure P G QX [.int .u8 9] fun v=>v=fact (.fn (.func Qf2) [] []) true true (0) true:=by
 intro t
 refine Qi 0 (zL _) (Qk hT QO (by simp [Yk]) (Qg 1000 ?_))
 simp -implicitDefEqProofs (disch:=omega) only [go_sem,↓reduceIte,reduceCtorEq,rA,rq,rL,rT,Nat.reduceMul,Int.reduceToNat,Int.reduceLE,lN,lC,nA,cA,QoT,show IntKind.i64.wrap 9=9 from rfl,false_implies,and_true,fact]
theorem QRY (hT:Qf P tab):Pure P G QX [.int .u8 10] fun v=>v=fact (.fn (.func Qf1) [] []) true true (0) true:=by
 intro t
 refine Qi 0 (zL _) (Qk hT QO (by simp [Yk]) (Qg 1000 ?_))
 simp -implicitDefEqProofs (disch:=omega) only [go_sem,↓reduceIte,reduceCtorEq,rA,rq,rL,rT,Nat.reduceMul,Int.reduceToNat,Int.reduceLE,lN,lC,nA,cA,QoT,show IntKind.i64.wrap 10=10 from rfl,false_implies,and_true,fact]
theorem QRX (hT:Qf P tab):Pure P G QX [.int .u8 11] fun v=>v=fact (.fn (.func Qf0) [] []) false false (0) true:=by
 intro t
 refine Qi 0 (zL _) (Qk hT QO (by simp [Yk]) (Qg 1000 ?_))
 simp -implicitDefEqProofs (disch:=omega) only [go_sem,↓reduceIte,reduceCtorEq,rA,rq,rL,rT,Nat.reduceMul,Int.reduceToNat,Int.reduceLE,lN,lC,nA,cA,QoT,show IntKind.i64.wrap 11=11 from rfl,false_implies,and_true,fact]
theorem QRW (hT:Qf P tab):Pure P G QX [.int .u8 12] fun v=>v=fact (.fn (.func QfZ) [] []) false false (0) true:=by
 intro t
 refine Qi 0 (zL _) (Qk hT QO (by simp [Yk]) (Qg 1000 ?_))
 simp -implicitDefEqProofs (disch:=omega) only [go_sem,↓reduceIte,reduceCtorEq,rA,rq,rL,rT,Nat.reduceMul,Int.reduceToNat,Int.reduceLE,lN,lC,nA,cA,QoT,show IntKind.i64.wrap 12=12 from rfl,false_implies,and_true,fact]
theorem QRV (hT:Qf P tab):Pure P G QX [.int .u8 13] fun v=>v=fact (.fn (.func QfY) [] []) false false (0) true:=by
 intro t
 refine Qi 0 (zL _) (Qk hT QO (by simp [Yk]) (Qg 1000 ?_))
 simp -implicitDefEqProofs (disch:=omega) only [go_sem,↓reduceIte,reduceCtorEq,rA,rq,rL,rT,Nat.reduceMul,Int.reduceToNat,Int.reduceLE,lN,lC,nA,cA,QoT,show IntKind.i64.wrap 13=13 from rfl,false_implies,and_true,fact]
theorem QRU (hT:Qf P tab):Pure P G QX [.int .u8 14] fun v=>v=fact (.fn (.func Qey) [] []) false false (0) false:=by
 intro t
 refine Qi 0 (zL _) (Qk hT QO (by simp [Yk]) (Qg 1000 ?_))
 simp -implicitDefEqProofs (disch:=omega) only [go_sem,↓reduceIte,reduceCtorEq,rA,rq,rL,rT,Nat.reduceMul,Int.reduceToNat,Int.reduceLE,lN,lC,nA,cA,QoT,show IntKind.i64.wrap 14=14 from rfl,false_implies,and_true,fact]
theorem QRT (hT:Qf P tab):Pure P G QX [.int .u8 15] fun v=>v=fact (.fn (.func Qex) [] []) false false (0) false:=by
 intro t
 refine Qi 0 (zL _) (Qk hT QO (by simp [Yk]) (Qg 1000 ?_))
 simp -implicitDefEqProofs (disch:=omega) only [go_sem,↓reduceIte,reduceCtorEq,rA,rq,rL,rT,Nat.reduceMul,Int.reduceToNat,Int.reduceLE,lN,lC,nA,cA,QoT,show IntKind.i64.wrap 15=15 from rfl,false_implies,and_true,fact]
theorem QRS (hT:Qf P tab):Pure P G QX [.int .u8 16] fun v=>v=fact (.fn (.func Qew) [] []) true false (0) false:=by
 intro t
 refine Qi 0 (zL _) (Qk hT QO (by simp [Yk]) (Qg 1000 ?_))
 simp -implicitDefEqProofs (disch:=omega) only [go_sem,↓reduceIte,reduceCtorEq,rA,rq,rL,rT,Nat.reduceMul,Int.reduceToNat,Int.reduceLE,lN,lC,nA,cA,QoT,show IntKind.i64.wrap 16=16 from rfl,false_implies,and_true,fact]
variable {op a b:Int}
theorem QB8 (hT:Qf P tab) (h:17≤op) (h2:op≤255):Pure P G QX [.int .u8 op] fun v=>v=fact (.val .nilFunc) false false 0 false:=by
 intro t
 refine Qi 0 (zL _) (Qk hT QO (by simp [Yk]) (Qg 1000 ?_))
 have hw:IntKind.i64.wrap op=op:=wrap_i64 (by omega) (by omega)
 simp -implicitDefEqProofs (disch:=omega) only [go_sem,↓reduceIte,reduceCtorEq,rA,rq,rL,lN,lC,nA,cA,QoT,hw,h,false_implies,and_true,fact]
def doW (op a b:Int):Int :=
 if op=1 then IntKind.i64.wrap (a+b) else
 if op=2 then IntKind.i64.wrap (a - b) else
 if op=3 then IntKind.i64.wrap (a * b) else
 if op=4 then QQh a b else
 if op=5 then QBQ a b else
 if op=6 then divN a b else
 if op=7 then QBR a b else
 if op=8 then Qcb .i64 a b else
 if op=9 then orI .i64 a b else
 if op=10 then QPx .i64 a b else
 if op=11 then IntKind.i64.wrap (a * 2 ^ min (Qcb .i64 b 63).toNat 64) else
 if op=12 then IntKind.i64.wrap ((IntKind.u64.wrap a).fdiv (2 ^ min (Qcb .i64 b 63).toNat 64)) else
 if op=13 then a.fdiv (2 ^ min (Qcb .i64 b 63).toNat 64) else
 if op=14 then (if a<b then 1 else 0) else
 if op=15 then (if IntKind.u64.wrap a<IntKind.u64.wrap b then 1 else 0) else
 if op=16 then (if a=b then 1 else 0) else
 0
theorem QQg (hT:Qf P tab) (h:Pure P G QX [.int .u8 op] fun v=>v=fact (.val .nilFunc) false false 0 false):Pure P G QiD [.int .u8 op,.int .i64 a,.int .i64 b] fun v=>v=.int .i64 0:=by
 intro t
 refine Qi 0 (zL _) (Qk hT Qih (by simp [Qjl]) (Qg 1000 ?_))
 refine ya ?_
 refine Qj hT QO h rfl 1000 ?_
 simp -implicitDefEqProofs (disch:=omega) only [go_sem,↓reduceIte,reduceCtorEq,rA,rq,rL,fact,lN,lC,nA,cA,QoT,true_implies,and_true]
theorem Qg6 (hT:Qf P tab) {n:Int} {f:Nat} {A:AF} {c1 c2 c3:Bool} {d:Int→Int→Int} (hf:tab f=some A) (h:Pure P G QX [.int .u8 op] fun v=>v=fact (.fn (.func f) [] []) c1 c2 n c3) (hd:Pure P G f [.int .i64 a,.int .i64 b] fun v=>v=.int .i64 (d a b)):Pure P G QiD [.int .u8 op,.int .i64 a,.int .i64 b] fun v=>v=.int .i64 (d a b):=by
 intro t
 refine Qi 0 (zL _) (Qk hT Qih (by simp [Qjl]) (Qg 1000 ?_))
 refine ya ?_
 refine Qj hT QO h rfl 1000 ?_
 simp -implicitDefEqProofs (disch:=omega) only [go_sem,↓reduceIte,reduceCtorEq,rA,rq,rL,fact,lN,lC,nA,cA,QoT,true_implies,and_true]
 refine Qj hT hf hd rfl 1000 ?_
 exact yb
theorem c_Do (hT:Qf P tab) (h0:0≤op) (h1:op≤255) (ha:i64 a) (hb:i64 b):Pure P G QiD [.int .u8 op,.int .i64 a,.int .i64 b] fun v=>v=.int .i64 (doW op a b):=by
 by_cases hm:17≤op
 ·have e:doW op a b=0:=by unfold doW; repeat rw [if_neg (by omega)]
  rw [e]
  exact QQg hT (QB8 hT hm h1)
 ·have:op=0∨op=1∨op=2∨op=3∨op=4∨op=5∨op=6∨op=7∨op=8∨op=9∨op=10∨op=11∨op=12∨op=13∨op=14∨op=15∨op=16:=by omega
  rcases this with rfl | rfl | rfl | rfl | rfl | rfl | rfl | rfl | rfl | rfl | rfl | rfl | rfl | rfl | rfl | rfl | rfl
  ·exact QQg hT (of_0 hT)
  ·exact Qg6 hT Qkz (of_1 hT) (w_S1 hT a b ha hb)
  ·exact Qg6 hT Qky (of_2 hT) (w_S2 hT a b ha hb)
  ·exact Qg6 hT Qkx (of_3 hT) (w_S3 hT a b ha hb)
  ·exact Qg6 hT QoJ (of_4 hT) (w_div hT a b ha hb)
  ·exact Qg6 hT QoI (of_5 hT) (w_rem hT a b ha hb)
  ·exact Qg6 hT Qmx (of_6 hT) (w_divU hT a b ha hb)
  ·exact Qg6 hT Qmw (of_7 hT) (w_remU hT a b ha hb)
  ·exact Qg6 hT Qkw (of_8 hT) (w_S4 hT a b ha hb)
  ·exact Qg6 hT Qkv (of_9 hT) (w_S5 hT a b ha hb)
  ·exact Qg6 hT Qku (QRY hT) (w_S6 hT a b ha hb)
  ·exact Qg6 hT Qkt (QRX hT) (w_S7 hT a b ha hb)
  ·exact Qg6 hT Qks (QRW hT) (w_S8 hT a b ha hb)
  ·exact Qg6 hT Qkr (QRV hT) (w_S9 hT a b ha hb)
  ·exact Qg6 hT Qif (QRU hT) (w_S10 hT a b ha hb)
  ·exact Qg6 hT Qie (QRT hT) (w_S11 hT a b ha hb)
  ·exact Qg6 hT Qid (QRS hT) (w_S12 hT a b ha hb)
end
theorem QmV {l:List Int} {i:Nat} {x:Int} (h:l[i]?=some x):(Xg l).getD i .any=.int .i64 x:=by simp [Xg,List.getD_eq_getElem?_getD,h]
section
attribute [local go_sem] lC lN nA aZ lR zA zL and_true decide_false decide_true ge_iff_le Qu Xl true_implies
structure Cl where
 arr:Int
 ver:Int
 at':Int
 n:Int
def Cl.v (c:Cl):V:=.agg [.int .i64 c.arr,.int .i64 c.ver,.int .i64 c.at',.int .i64 c.n]
def envV (S:List Int) (tS:Bool) (zC:Nat) (C:List Cl) (tC:Bool):V:=.agg [.lst 1 (Xg S) tS,.lst zC (C.map Cl.v) tC]
def symE (S:List Int) (k:Int):Int:=if k<0∨(S.length:Int)≤k then 0 else S.getD k.toNat 0
end
section
attribute [local go_sem] aZ lR Nat.succ_ne_zero zA beq_self_eq_true decide_false decide_true Qu
def fstC (p:Cl→Bool):List Cl→Nat→Int
 | [],_=>-1
 | n::c,i=>if p n then i else fstC p c (i+1)
theorem Qi8 {l:List Cl} {i:Nat} {x:Cl} (h:l[i]?=some x):(l.map Cl.v).getD i .any=x.v:=by simp [List.getD_eq_getElem?_getD,h]
def isC (a w x:Int) (c:Cl):Bool:=decide (c.arr=a∧c.ver=w∧c.at'=x)
def eH (v0 v1 v2 v3:Nat) (e:List V) (a w x:Int):List (Option Ob):=[some (.arr v0 67 e),some (.arr v1 3 [.int .i64 a]),some (.arr v2 2 [.int .i64 w]),some (.arr v3 2 [.int .i64 x])]
end
section
attribute [local go_sem] cA lC lM lN nA lR zA zL and_true decide_true eH envV Qu true_and true_implies
def QDr (C:List Cl) (a w x:Int):Int:=if fstC (isC a w x) C 0<0 then 0 else ((C[(fstC (isC a w x) C 0).toNat]?).map Cl.n).getD 0
end
end Go.Proofs.YtbdhjeojcpgblaaGreatDoor
