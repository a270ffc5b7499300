/- Plain: what an environment's values are to a blaster; the environment read back. -/
import Derived.Test.YtoeicjlflmmmcaaGreatDoorJ10
import Derived.Test.YtoeicjlflmmmcaaGreatDoorJ12
import Derived.Test.YtoeicjlflmmmcaaGreatDoorJ11
import Derived.Test.YtoeicjlflmmmcaaGreatDoorJ2
import Derived.Test.YtoeicjlflmmmcaaGreatDoorJ9
import Derived.Test.YtoeicjlflmmmcaaGreatDoorAmD
open Nat renaming reduceEqDiff → rq, reduceAdd → rA, reduceLeDiff → rL, reduceLT → rT, zero_add → zA, le_refl → lR, zero_le → zL, add_zero → aZ
open List renaming length_cons → lC, length_nil → lN, take_succ_cons → tSq, length_append → lA, nil_append → nA, cons_append → cA, append_assoc → aA, take_nil → tN, take_zero → tZ, length_map → lM
open Bool renaming not_false → nFq, not_true → nT
namespace Go.Proofs.YtoeicjlflmmmcaaGreatDoor
open Go Go.Am Go.Bl
set_option maxRecDepth 100000
variable {I:Int→Int→Bool} {cap:Nat}
set_option maxHeartbeats 1000000
variable {x:Int}
theorem i64_eq (h:i64 x):Qll x:=h
variable {L:List Nd}
theorem Qjf (hok:okN L) {Sy:List Int} {C':List Cl} (hS:∀ x∈Sy,i64 x) (hC:∀ c∈C',i64 c.n):Ctx (Qbp Sy C' L) L (val Sy C' L) where
 wf:=hok.wf
 kd:=Qdd hok
 c1:=fun id h0 h1 hk=>by rw [QgF hok.wf (Qdd hok) h0 h1,QbO,if_pos hk]
 c4:=fun id h0 h1 hk=>by
  conv=>lhs; rw [QgF hok.wf (Qdd hok) h0 h1,QbO,if_neg (by omega),if_neg (by omega),if_neg (by omega)]
 c3:=fun i j i0 i1 j0 j1 ki kj ha hn hy=>by
  rw [QgF hok.wf (Qdd hok) i0 i1,QgF hok.wf (Qdd hok) j0 j1,QbO,QbO,if_neg (by omega),if_neg (by omega),if_pos ki,if_neg (by omega),if_neg (by omega),if_pos kj,ha,hn,hy]
 bits:=fun id k h0 h1 _=>by
  show Zc (voI Sy C' L id) (k:Int).toNat=_
  rw [voI,if_pos ⟨h0,h1⟩,Int.toNat_natCast]
 v64:=fun id=>i64_eq (QKw hS hC (QKW hok) id)
theorem QH1 {L:List Nd} (hl:L.length≤14):∀ n,n≤L.length→rest (fC L) [] n≤n * 11520+81920 * mulN (L.take n)
 | 0,_=>by simp [rest]
 | n+1,hn=>by
   have ih:=QH1 hl n (by omega)
   obtain ⟨d,hd⟩:∃ d,L[n]?=some d:=⟨_,List.getElem?_eq_getElem (by omega)⟩
   have e:nd L (n:Int)=d:=by unfold nd; rw [Int.toNat_natCast,List.getD_eq_getElem?_getD,hd]; rfl
   have hm:mulN (L.take (n+1))=mulN (L.take n)+if d.op=3 then 1 else 0:=by
    unfold mulN
    rw [List.take_add_one,hd,List.countP_append]
    simp [List.countP_cons]
   have h0:(kL [] (n:Int)).isSome=false:=rfl
   have e2:fC L (n:Int)=(if d.op=3 then 81920 else 3456)+576 * L.length:=by unfold fC Qlz; rw [e]
   rw [rest,h0,if_neg (by decide),hm,e2]
   by_cases ho:d.op=3
   ·rw [if_pos ho,if_pos ho]; omega
   ·rw [if_neg ho,if_neg ho]; omega
theorem QH0 {L:List Nd} (hl:L.length≤14):∀ n,n≤L.length→rest (fG L) [] n≤n * 26368
 | 0,_=>by simp [rest]
 | n+1,hn=>by
   have ih:=QH0 hl n (by omega)
   have h0:(kL [] (n:Int)).isSome=false:=rfl
   have e2:fG L (n:Int)=24576+128 * L.length:=rfl
   rw [rest,h0,if_neg (by decide),e2]
   omega
theorem Qs4:∀ (l L:List Nd),mulN (l.foldl (fun L d=>(addN L d).2) L)≤mulN L+mulN l
 | [],L=>by simp [mulN]
 | d::l,L=>by
   rw [List.foldl_cons]
   have ih:=Qs4 l (addN L d).2
   have h1:mulN (addN L d).2≤mulN L+if d.op=3 then 1 else 0:=by
    unfold addN
    split
    ·split
     ·simp only; omega
     ·show mulN (L++[d])≤_
      unfold mulN
      rw [List.countP_append]
      simp [List.countP_cons]
    ·simp only; omega
   have h2:mulN (d::l)=mulN l+if d.op=3 then 1 else 0:=by simp [mulN,List.countP_cons]
   omega
theorem QzV (l:List Nd):mulN (Qh3 l)≤mulN l:=by
 have:=Qs4 l []
 simpa [mulN,Qh3] using this
theorem QzW (l:List Nd):(Qh3 l).length≤l.length:=by
 have:=Qpi l []
 simpa [Qh3] using this
theorem inv0 {val:Int→Int} (hl:L.length≤14) (hm:mulN L≤2):BInv I L val 400000 b0:=by
 have h1:=QH1 hl L.length (lR _)
 have h2:=QH0 hl L.length (lR _)
 rw [List.take_length] at h1
 exact b0_inv (by omega) (by omega) (by omega)
theorem QyA {L:List Nd} {s:Bs}:∀ U:List Int,(∀ u∈U,(kL s.K u).isSome=true)→bF L U s=s
 | [],_=>rfl
 | u::U,h=>by
   have e:bT L s u=s:=by rw [bT,if_pos (h u (by simp))]
   show bF L U (bT L s u)=s
   rw [e]
   exact QyA U fun u hu=>h u (by simp [hu])
theorem QA2 {s:Bs} {id:Int} (h:∀ u∈XP L [id],(kL s.K u).isSome=true):blB L s id=s:=by
 unfold blB
 split
 ·rfl
 ·exact QyA _ h
theorem QAL {c:List Cl} {a w v:Int} (h:∀ e∈c,isC a w x e=true→e.n=v) (hx:∃ e∈c,isC a w x e=true):Qij c a w x=v:=by
 have key:∀ c:List Cl,(∃ e∈c,isC a w x e=true)→∃ k n,(∀ m∈c.take k,isC a w x m=false)∧c[k]?=some n∧isC a w x n=true:=by
  intro c
  induction c with
  | nil=>rintro ⟨e,he,-⟩; cases he
  | cons y c ih =>
    intro hx
    cases hy:isC a w x y with
    | true=>exact ⟨0,y,by simp,rfl,hy⟩
    | false =>
      have:∃ e∈c,isC a w x e=true:=by
       obtain ⟨e,he,h1⟩:=hx
       rcases List.mem_cons.1 he with rfl | he
       ·rw [hy] at h1; cases h1
       ·exact ⟨e,he,h1⟩
      obtain ⟨k,n,h1,h2,h3⟩:=ih this
      refine ⟨k+1,n,fun m hm=>?_,h2,h3⟩
      rw [tSq] at hm
      rcases List.mem_cons.1 hm with rfl | hm
      ·exact hy
      ·exact h1 m hm
 obtain ⟨k,n,h1,h2,h3⟩:=key c hx
 have e:=Qrt (i:=0) h1 h2 h3
 unfold Qij
 rw [e,if_neg (by omega),show ((0+k:Nat):Int).toNat=k by omega,h2]
 exact h n (List.mem_of_getElem? h2) h3
variable {j:Nat} {s:List Int}
theorem Qtn {i:Nat} {v:Int} (h:j<s.length):(s.set i v).getD j 0=if i=j then v else s.getD j 0:=by
 rw [List.getD_eq_getElem?_getD,List.getD_eq_getElem?_getD,List.getElem?_set]
 split
 ·rename_i e; subst e; rw [if_pos h]; rfl
 ·rfl
theorem QAo {m:Nat}:(s++List.replicate m 0).getD j 0=s.getD j 0:=by
 rw [List.getD_eq_getElem?_getD,List.getD_eq_getElem?_getD,List.getElem?_append]
 split
 ·rfl
 ·rename_i h
  rw [List.getElem?_eq_none (l:=s) (by omega),List.getElem?_replicate]
  split <;> rfl
structure EnOk (L:List Nd) (tv:Int→Int) (done:List Int) (s:List Int) (c:List Cl):Prop where
 sy:∀ id∈done,(nd L id).kind=2→(nd L id).n.toNat<s.length∧s.getD (nd L id).n.toNat 0=tv id
 ce:∀ id∈done,(nd L id).kind=3→(⟨(nd L id).a,(nd L id).n,tv (nd L id).y,tv id⟩:Cl)∈c
 of:∀ e∈c,∃ id∈done,(nd L id).kind=3∧e=⟨(nd L id).a,(nd L id).n,tv (nd L id).y,tv id⟩
theorem en_ok {L:List Nd} {tv:Int→Int} {A:Int→Prop} (h2:∀ i j,A i→A j→(nd L i).kind=2→(nd L j).kind=2→(nd L i).n.toNat=(nd L j).n.toNat→tv i=tv j) :
 ∀ (ids done:List Int) (s:List Int) (c:List Cl),(∀ x∈done,A x)→(∀ x∈ids,A x)→EnOk L tv done s c→EnOk L tv (done++ids) (ids.foldl (enT L tv) (s,c)).1 (ids.foldl (enT L tv) (s,c)).2
 | [],done,s,c,_,_,h=>by simpa using h
 | id::ids,done,s,c,hd,hi,h=>by
   rw [List.foldl_cons]
   have step:EnOk L tv (done++[id]) (enT L tv (s,c) id).1 (enT L tv (s,c) id).2:=by
    unfold enT
    by_cases k2:(nd L id).kind=2
    ·rw [if_pos k2]
     refine ⟨fun j hj kj=>?_,fun j hj kj=>?_,fun e he=>?_⟩
     ·have hlen:((s++List.replicate ((nd L id).n.toNat+1 - s.length) 0).set (nd L id).n.toNat (tv id)).length=s.length+((nd L id).n.toNat+1 - s.length):=by simp
      rcases List.mem_append.1 hj with hj | hj
      ·obtain ⟨a1,a2⟩:=h.sy j hj kj
       refine ⟨by rw [hlen]; omega,?_⟩
       rw [Qtn (by simp; omega)]
       split
       ·rename_i e; exact h2 id j (hi id (by simp)) (hd j hj) k2 kj e
       ·rw [QAo,a2]
      ·rw [List.mem_singleton.1 hj]
       refine ⟨by rw [hlen]; omega,?_⟩
       rw [Qtn (by simp; omega),if_pos rfl]
     ·rcases List.mem_append.1 hj with hj | hj
      ·exact h.ce j hj kj
      ·rw [List.mem_singleton.1 hj] at kj; omega
     ·obtain ⟨j,hj,k3,e3⟩:=h.of e he
      exact ⟨j,by simp [hj],k3,e3⟩
    rw [if_neg k2]
    by_cases k3:(nd L id).kind=3
    ·rw [if_pos k3]
     refine ⟨fun j hj kj=>?_,fun j hj kj=>?_,fun e he=>?_⟩
     ·rcases List.mem_append.1 hj with hj | hj
      ·exact h.sy j hj kj
      ·rw [List.mem_singleton.1 hj] at kj; omega
     ·rcases List.mem_append.1 hj with hj | hj
      ·exact List.mem_append_left _ (h.ce j hj kj)
      ·rw [List.mem_singleton.1 hj]; simp
     ·rcases List.mem_append.1 he with he | he
      ·obtain ⟨j,hj,k3',e3⟩:=h.of e he
       exact ⟨j,by simp [hj],k3',e3⟩
      ·exact ⟨id,by simp,k3,List.mem_singleton.1 he⟩
    ·rw [if_neg k3]
     refine ⟨fun j hj kj=>?_,fun j hj kj=>?_,fun e he=>?_⟩
     ·rcases List.mem_append.1 hj with hj | hj
      ·exact h.sy j hj kj
      ·rw [List.mem_singleton.1 hj] at kj; omega
     ·rcases List.mem_append.1 hj with hj | hj
      ·exact h.ce j hj kj
      ·rw [List.mem_singleton.1 hj] at kj; omega
     ·obtain ⟨j,hj,k3',e3⟩:=h.of e he
      exact ⟨j,by simp [hj],k3',e3⟩
   have:=en_ok h2 ids (done++[id]) _ _ (fun x hx=>(List.mem_append.1 hx).elim (hd x) fun h=>by rw [List.mem_singleton.1 h]; exact hi id (by simp)) (fun x hx=>hi x (by simp [hx])) step
   rw [aA] at this
   exact this
theorem Qyw {L:List Nd} (hok:okN L) {Sy:List Int} {C':List Cl} {ids:List Int} (hids:∀ x:Int,x∈ids↔0≤x∧x<L.length) {tv:Int→Int} (htv:∀ id:Int,0≤id→id<L.length→tv id=val Sy C' L id) (h0:∀ id:Int,(nd L id).kind=2→0≤(nd L id).n) :
 ∀ (f:Nat) (id:Int),id.toNat<f→0≤id→id<L.length→val (enF L tv ids).1 (enF L tv ids).2 L id=val Sy C' L id
 | 0,_,h,_,_=>absurd h (by omega)
 | f+1,id,h,i0,i1=>by
   have hE0:EnOk L tv [] [] []:=⟨(fun id h=>by cases h),(fun id h=>by cases h),(fun e h=>by cases h)⟩
   have hp3:∀ j:Int,0≤j→j<L.length→(nd L j).kind=3→0≤(nd L j).y∧(nd L j).y<j:=fun j j0 j1 kj=>Qk1 hok.wf j0 j1 _ (QKP kj)
   have hsy:∀ i j:Int,i∈ids→j∈ids→(nd L i).kind=2→(nd L j).kind=2→(nd L i).n.toNat=(nd L j).n.toNat→tv i=tv j:=fun i j hi hj ki kj e=>by
    obtain ⟨a0,a1⟩:=(hids i).1 hi
    obtain ⟨c0,c1⟩:=(hids j).1 hj
    have en:(nd L i).n=(nd L j).n:=by have:=h0 i ki; have:=h0 j kj; omega
    rw [htv i a0 a1,htv j c0 c1,QgF hok.wf (Qdd hok) a0 a1,QgF hok.wf (Qdd hok) c0 c1,QbO,QbO,if_neg (by omega),if_pos ki,if_neg (by omega),if_pos kj,en]
   have E:EnOk L tv ([]++ids) (enF L tv ids).1 (enF L tv ids).2:=en_ok (A:=fun x=>x∈ids) hsy ids [] [] [] (fun x h=>by cases h) (fun x h=>h) hE0
   rw [nA] at E
   have him:=(hids id).2 ⟨i0,i1⟩
   have hv:=htv id i0 i1
   have hv0:=QgF (S:=Sy) (C:=C') hok.wf (Qdd hok) i0 i1
   have ih:∀ p,p∈pts L id→val (enF L tv ids).1 (enF L tv ids).2 L p=val Sy C' L p:=fun p hp=>by
    have:=Qk1 hok.wf i0 i1 p hp
    exact Qyw hok hids htv h0 f p (by omega) (by omega) (by omega)
   rw [QgF hok.wf (Qdd hok) i0 i1,hv0]
   rcases ((Qdd hok) id i0 i1).1 with k1 | k2 | k3 | k4
   ·rw [QbO,QbO,if_pos k1,if_pos k1]
   ·obtain ⟨s1,s2⟩:=E.sy id him k2
    have hn:=h0 id k2
    rw [hv,hv0] at s2
    rw [QbO,if_neg (by omega),if_pos k2] at s2 ⊢
    rw [QbO,if_neg (by omega),if_pos k2,← s2]
    unfold QuL
    rw [if_neg (by omega)]
   ·rw [QbO,QbO,if_neg (by omega),if_neg (by omega),if_pos k3,if_neg (by omega),if_neg (by omega),if_pos k3,ih _ (QKP k3)]
    obtain ⟨y0,y1⟩:=hp3 id i0 i1 k3
    refine QAL (fun e he hc=>?_) ⟨_,E.ce id him k3,?_⟩
    ·obtain ⟨j,hj,kj,rfl⟩:=E.of e he
     obtain ⟨j0,j1⟩:=(hids j).1 hj
     obtain ⟨z0,z1⟩:=hp3 j j0 j1 kj
     unfold isC at hc
     obtain ⟨c1,c2,c3⟩:=of_decide_eq_true hc
     simp only at c1 c2 c3 ⊢
     rw [htv _ z0 (by omega)] at c3
     rw [htv j j0 j1,QgF hok.wf (Qdd hok) j0 j1,QbO,if_neg (by omega),if_neg (by omega),if_pos kj,c1,c2,c3]
    ·unfold isC
     simp only [decide_eq_true_eq]
     first | exact ⟨rfl,rfl,htv _ y0 (by omega)⟩ | exact ⟨trivial,trivial,htv _ y0 (by omega)⟩
   ·rw [QbO,QbO,if_neg (by omega),if_neg (by omega),if_neg (by omega),if_neg (by omega),if_neg (by omega),if_neg (by omega),ih _ (QMO k4).1,ih _ (QMO k4).2]
end Go.Proofs.YtoeicjlflmmmcaaGreatDoor
namespace Go.Proofs.YtoeicjlflmmmcaaGreatDoor
open Go Go.Am
set_option maxRecDepth 100000
variable {P:Program} {G:Nat→Option V}
set_option maxHeartbeats 1000000
section
attribute [local go_sem] nT lR Nat.mul_one Nat.succ_ne_zero zA zL decide_false decide_true Q3 Yr QKm QKl QKk QKj QKi QKh QKg QKf Y1 zq9_0 zq9_1 zq9_2 zq9_3
def Qm1 (i:Int) (n:Nat):Int:=if n=0 then 0 else i % n
variable {n t:Nat} {i:Int}
theorem Qra (h:n≠0):0≤Qm1 i n∧Qm1 i n<n:=by
 unfold Qm1
 rw [if_neg h]
 exact ⟨Int.emod_nonneg _ (by omega),Int.emod_lt_of_pos _ (by omega)⟩
theorem QKQ {n:Int} (h:0<n) (hn:n≤1000000):(IntKind.i64.wrap (i.tmod n+n)).tmod n=i % n:=by
 have h1:=Int.tmod_lt_of_pos i h
 have h2:=Int.lt_tmod_of_pos i h
 have h3:=Int.mul_tdiv_add_tmod i n
 rw [wrap_i64 (by omega) (by omega),Int.tmod_eq_emod_of_nonneg (by omega),Int.add_emod_right]
 conv=>rhs; rw [← h3]
 rw [Int.mul_add_emod_self_left]
theorem Qyp (hT:Qe P tab) (hn:n≤1000000):Pure P G Qcc [.int .i64 i,.int .i64 (n:Int)] fun v=>v=.int .i64 (Qm1 i n):=by
 intro t
 refine Qj 0 (zL _) (Qo hT Ze (by simp [Y1]) (Qm 1000 ?_))
 by_cases h:n=0
 ·subst h
  simp -implicitDefEqProofs (disch:=omega) only [go_sem,↓reduceIte,reduceCtorEq,rq,Qm1]
  exact fun h=>absurd (Int.le_refl _) h
 ·have h1:¬ (n:Int)≤0:=by omega
  have h2:¬ (n:Int)=0:=by omega
  simp -implicitDefEqProofs (disch:=omega) only [go_sem,↓reduceIte,reduceCtorEq,rq,Qm1,h,h1,h2]
  rw [QKQ (by omega) (by omega)]
def QjY (l:List Nd):List Int:=(l.foldl (fun (p:List Nd × List Int) d=>((addN p.1 d).2,p.2++[(addN p.1 d).1])) ([],[])).2
theorem Qph:∀ (l:List Nd) (p:List Nd × List Int),(l.foldl (fun (p:List Nd × List Int) d=>((addN p.1 d).2,p.2++[(addN p.1 d).1])) p).1=l.foldl (fun L d=>(addN L d).2) p.1
 | [],_=>rfl
 | d::l,p=>Qph l _
theorem Qt6 {l:List Nd} {d:Nd}:QjY (l++[d])=QjY l++[(addN (Qh3 l) d).1]:=by
 have e:=Qph l ([],[])
 unfold QjY
 rw [List.foldl_append]
 simp only [List.foldl_cons,List.foldl_nil]
 rw [e]; rfl
theorem Qxs (l:List Nd):(QjY l).length=l.length:=by
 unfold QjY
 have key:∀ (l:List Nd) (p:List Nd × List Int),(l.foldl (fun (p:List Nd × List Int) d=>((addN p.1 d).2,p.2++[(addN p.1 d).1])) p).2.length=p.2.length+l.length:=fun l=>by
  induction l with
  | nil=>intro p; rfl
  | cons d l ih=>intro p; rw [List.foldl_cons,ih]; simp; omega
 rw [key]; simp
theorem QMa (hT:Qe P tab) (F:Fmt P G) (l:List Nd) (tight:Bool) (hl:∀ d∈l,i64 d.n∧i64 d.a) (hll:l.length≤1000) :
 C P G 0 Qap [.lst 6 (l.map fun d=>.agg d.cells) tight] ⟨t,[]⟩ fun v σ=>∃ v0 v1 v2 v3 v4 t' r,t≤t'∧v=.tup [.ptr 1 v0 0,.sl 5 r 0 1 l.length none]∧σ=⟨t',kG F.fmt v0 v1 v2 v3 v4 (Qh3 l)++[some (.arr r 37 (Qb (QjY l)))]⟩:=by
 refine Qj 6 (zL _) (Qo hT Yv (by simp [Yr]) (Qm 1000 ?_))
 simp -implicitDefEqProofs (disch:=omega) only [go_sem,↓reduceIte,reduceCtorEq,rq]
 refine call hT Qmg (c_New hT (zL _)) 1000 fun v σ hv=>?_
 obtain ⟨v0,v1,v2,v3,v4,t1,i1,i2,i3,i4,ht1,rfl,rfl,rfl,rfl,rfl,rfl⟩:=hv
 simp -implicitDefEqProofs (disch:=omega) only [go_sem,↓reduceIte,reduceCtorEq,rq,lN,nA]
 refine QX (Shift.own (s:=5) (sz:=1) (T:=37) (z:=0) rfl (by decide)) (Qg 1000 ?_)
 simp -implicitDefEqProofs (disch:=omega) only [go_sem,↓reduceIte,reduceCtorEq,rA,rq,lN,nA,lC,cA]
 refine Zv (fun m fr σ=>∃ (i t' v2' v3' v4' r':Nat) (L:List Nd) (O:List Int),i≤l.length∧m=l.length - i∧L=Qh3 (l.take i)∧O=QjY (l.take i)∧O.length=i∧t≤t'∧Qd fr 0=.lst 6 (l.map fun d=>.agg d.cells) tight∧Qd fr 4=.ptr 1 v0 0∧Qd fr 5=.sl 5 r' 0 1 i none∧Qd fr 6=.int .i64 i ∧
  σ=⟨t',kG F.fmt v0 v1 v2' v3' v4' L++[some (.arr r' 37 (O.map (V.int .i64)))]⟩)
  (fun e fr σ=>e=.ex 0∧Qd fr 4=.ptr 1 v0 0∧∃ (t' v2' v3' v4' r':Nat),t≤t'∧Qd fr 5=.sl 5 r' 0 1 l.length none∧σ=⟨t',kG F.fmt v0 v1 v2' v3' v4' (Qh3 l)++[some (.arr r' 37 (Qb (QjY l)))]⟩)
  (m0:=l.length) ⟨0,t1+1,v2,v3,v4,t1,[],[],zL _,rfl,rfl,rfl,rfl,by omega,?_⟩ (fun m fr σ hJ=>?_) (fun e fr σ hE=>?_)
 ·simp -implicitDefEqProofs (disch:=omega) only [go_sem,↓reduceIte,reduceCtorEq,rq]
  exact ⟨rfl,rfl⟩
 ·obtain ⟨i,t',v2',v3',v4',r',L,O,hi,rfl,hLe,hOe,hO,ht',f0,f4,f5,f6,rfl⟩:=hJ
  have hLl:L.length≤i:=by
   have:=Qpi (l.take i) []
   rw [hLe]; simp [Qh3] at this ⊢; omega
  refine Qm 1000 ?_
  rcases Nat.lt_or_ge i l.length with hlt | hge
  ·obtain ⟨d,hd⟩:∃ d,l[i]?=some d:=⟨_,List.getElem?_eq_getElem hlt⟩
   obtain ⟨hn,ha⟩:=hl d (List.mem_of_getElem? hd)
   have hc6:d.cells.length=6:=rfl
   have ht6:d.cells.take 6=d.cells:=rfl
   have hg:(l.map fun d=>V.agg d.cells).getD i .any=.agg d.cells:=by simp [List.getD_eq_getElem?_getD,hd]
   simp -implicitDefEqProofs (disch:=omega) only [go_sem,↓reduceIte,reduceCtorEq,rq,lM,f0,f4,f5,f6,hlt,hg,hc6,ht6]
   refine call hT Qd9 (k_Add hT F d (by omega) hn ha) 1000 fun v σ hv=>?_
   obtain ⟨rfl,t2,w2,w3,w4,ht2,rfl⟩:=hv
   simp -implicitDefEqProofs (disch:=omega) only [go_sem,↓reduceIte,reduceCtorEq,rq,rL,lM,f6,kG_5,kGs_5,hO]
   refine ⟨l.length - (i+1),_,_,by omega,Shift.refl _ _ _ _,i+1,t2+1,w2,w3,w4,t2,(addN L d).2,O++[(addN L d).1],hlt,rfl,?_,?_,by simp [hO],by omega,?_⟩
   ·rw [List.take_add_one,hd,Option.toList_some,Qh3,List.foldl_append,hLe]; rfl
   ·rw [List.take_add_one,hd,Option.toList_some,Qt6,hOe,hLe]
   ·have hw:IntKind.i64.wrap ((i:Int)+1)=((i+1:Nat):Int):=by
     rw [wrap_i64 (by omega) (by omega)]; rfl
    simp -implicitDefEqProofs (disch:=omega) only [go_sem,↓reduceIte,reduceCtorEq,rq,f0,f4,hw,List.map_append]
    try exact ⟨rfl,rfl⟩
    try rfl
  ·simp -implicitDefEqProofs (disch:=omega) only [go_sem,↓reduceIte,rq,lM,f0,f4,f5,f6,show ¬ i<l.length from by omega]
   have hil:i=l.length:=by omega
   subst hil
   rw [List.take_length] at hLe hOe
   exact ⟨t',v2',v3',v4',r',ht',rfl,rfl,by rw [hLe,hOe]; rfl⟩
 ·obtain ⟨rfl,f4,t',v2',v3',v4',r',ht',f5,rfl⟩:=hE
  refine Qg 1000 ?_
  simp -implicitDefEqProofs (disch:=omega) only [go_sem,↓reduceIte,rA,rq,f4,f5,Qh7]
  exact ⟨v0,v1,v2',v3',v4',_,_,ht',rfl,rfl,by simp [kG]⟩
theorem QnA (hT:Qe P tab) (F:Fmt P G) (l:List Nd) (tight:Bool) (hl:∀ d∈l,i64 d.n∧i64 d.a) (hll:l.length≤1000) :
 C P G 0 Qap [.lst 6 (l.map fun d=>.agg d.cells) tight] ⟨t,[]⟩ fun v σ=>∃ v0 v1 v2 v3 v4 t',t≤t'∧v=.tup [.ptr 1 v0 0,.lst 1 (Qb (QjY l)) false]∧σ=⟨t',kG F.fmt v0 v1 v2 v3 v4 (Qh3 l)⟩:=by
 refine Qj 5 (zL _) (QaT (QMa hT F l tight hl hll) fun v σ hq=>?_)
 obtain ⟨v0,v1,v2,v3,v4,t',r,ht,rfl,rfl⟩:=hq
 refine .inr ⟨5,r,37,Qb (QjY l),zL _,rfl,QL _,?_,v0,v1,v2,v3,v4,t',ht,?_,?_⟩
 ·simp [QW,kG]
 ·have:=Qug (k:=5) (w:=r) (QjY l)
  rw [Qxs] at this
  simp only [Zw,QqK] at this ⊢
  rw [this,if_neg (fun h=>absurd h.1 (by decide))]
 ·rw [kGs_5,kfrz]
  rfl
end
end Go.Proofs.YtoeicjlflmmmcaaGreatDoor
namespace Go.Proofs.YtoeicjlflmmmcaaGreatDoor
open Go Go.Am Go.Bl
set_option maxRecDepth 100000
variable {I:Int→Int→Bool} {cap:Nat}
set_option maxHeartbeats 1000000
def QeA (L:List Nd):Prop:=∀ id:Int,0≤id→id<L.length→QgZ L id=false
variable {s:Bs} {L:List Nd}
theorem QjQ {val:Int→Int} (cx:Ctx I L val) (hf:QeA L) (hs:BInv I L val cap s) {id:Int} (h0:0≤id) (h1:id<L.length):blV L s id=true:=by
 have hn:(XP L [id]).any (QgZ L)=false:=by
  rw [List.any_eq_false]
  intro x hx
  have:=QaF x hx
  rw [hf x this.1 this.2]; decide
 unfold blV
 rw [hn]
 have:=(QyB cx hs (U:=XP L [id]) QaF QbZ (fun x hx p hp=>QcB cx.wf hx hp)).2.2 id (QeI cx.wf h0 h1)
 rw [this]; rfl
theorem QMi (hwf:gwf L) {id:Int} (h0:0≤id) (h1:id<L.length) (hf:QgZ L id=true):blV L s id=false:=by
 have hn:(XP L [id]).any (QgZ L)=true:=List.any_eq_true.2 ⟨id,QeI hwf h0 h1,hf⟩
 unfold blV
 rw [hn]; rfl
theorem QMj (h:∀ x:Int,0≤x→x<L.length→(kL s.K x).isSome=true) (id:Int):blB L s id=s :=
 QA2 fun u hu=>h u (QaF u hu).1 (QaF u hu).2
variable {a b y:Int}
theorem cg_eq (ha:Qll a) (hb:Qll b):cg a b↔a=b:=by
 unfold cg
 unfold Qll at ha hb
 constructor
 ·intro h; omega
 ·rintro rfl; rfl
variable {x:List Int}
theorem QHT {val:Int→Int} (hs:BInv I L val cap s) {y:List Int} (hx:Nb s.S.gs.length x) (hy:Nb s.S.gs.length y) (tx:Tl (mdl I s.S.gs) x a) (ty:Tl (mdl I s.S.gs) y b) (ha:Qll a) (hb:Qll b) :
 lit (Qv s.S x y).1.gs.length (Qv s.S x y).2∧lv (mdl I (Qv s.S x y).1.gs) (Qv s.S x y).2=decide (a≠b):=by
 obtain ⟨h1,h2,h3⟩:=QcZ hs.k.ok hx hy tx ty
 refine ⟨h2,?_⟩
 rw [cg_eq ha hb] at h3
 by_cases e:a=b
 ·rw [h3.2 e]; simp [e]
 ·have:¬ lv (mdl I (Qv s.S x y).1.gs) (Qv s.S x y).2=false:=fun h=>e (h3.1 h)
  rw [Bool.not_eq_false] at this
  rw [this]; simp [e]
theorem Tl.pre {gs ms:List Gt} (h:gs <+: ms) (hx:Nb gs.length x) (t:Tl (mdl I gs) x a):Tl (mdl I ms) x a:=fun k hk=>by rw [ZO h (hx.all k hk)]; exact t k hk
def trS (L:List Nd) (s:Bs) (id:Int):Bs × Int:=(⟨(Qv (blB L s id).S (kx (blB L s id).K id) (Qdq 0)).1,(blB L s id).K,(blB L s id).E⟩,(Qv (blB L s id).S (kx (blB L s id).K id) (Qdq 0)).2)
def unB (r:Bs) (x y:Int):Bs × Int:=(⟨(Qv r.S (kx r.K x) (kx r.K y)).1,r.K,r.E⟩,(Qv r.S (kx r.K x) (kx r.K y)).2)
def dfS (L:List Nd) (s:Bs) (x y:Int):Bs × Int:=unB (blB L (blB L s x) y) x y
theorem tr_ok {val:Int→Int} (cx:Ctx I L val) (hf:QeA L) (hs:BInv I L val cap s) (hc:cap+448≤1000000) {id:Int} (h0:0≤id) (h1:id<L.length) :
 BInv I L val (cap+448) (trS L s id).1∧BUp s (trS L s id).1∧lit (trS L s id).1.S.gs.length (trS L s id).2∧lv (mdl I (trS L s id).1.S.gs) (trS L s id).2=decide (val id≠0):=by
 obtain ⟨i1,u1⟩:=QgM cx hs id
 obtain ⟨-,k2,k3⟩:=i1.k.get (Qil (QjQ cx hf hs h0 h1))
 obtain ⟨i2,g2⟩:=QHU i1 k2 (QiE i1.k.ok.wf 0) hc
 obtain ⟨l1,l2⟩:=QHT i1 k2 (QiE i1.k.ok.wf 0) k3 (Qm5 i1.k.ok.wf 0) (cx.v64 id) (by unfold Qll; omega)
 exact ⟨i2,u1.trans ⟨fun _ _ h=>h,g2.pre,g2.cpre⟩,l1,l2⟩
theorem QLX {val:Int→Int} (cx:Ctx I L val) (hf:QeA L) (hs:BInv I L val cap s) (hc:cap+448≤1000000) {x:Int} (x0:0≤x) (x1:x<L.length) (y0:0≤y) (y1:y<L.length) :
 BInv I L val (cap+448) (dfS L s x y).1∧BUp s (dfS L s x y).1∧lit (dfS L s x y).1.S.gs.length (dfS L s x y).2∧lv (mdl I (dfS L s x y).1.S.gs) (dfS L s x y).2=decide (val x≠val y):=by
 obtain ⟨i1,u1⟩:=QgM cx hs x
 obtain ⟨i2,u2⟩:=QgM cx i1 y
 obtain ⟨-,k2,k3⟩:=i2.k.get (u2.some (Qil (QjQ cx hf hs x0 x1)))
 obtain ⟨-,m2,m3⟩:=i2.k.get (Qil (QjQ cx hf i1 y0 y1))
 obtain ⟨i3,g3⟩:=QHU i2 k2 m2 hc
 obtain ⟨l1,l2⟩:=QHT i2 k2 m2 k3 m3 (cx.v64 x) (cx.v64 y)
 exact ⟨i3,(u1.trans u2).trans ⟨fun _ _ h=>h,g3.pre,g3.cpre⟩,l1,l2⟩
theorem QMp {val:Int→Int} (cx:Ctx I L val) (hf:QeA L) (hs:BInv I L val cap s) {id:Int} (h0:0≤id) (h1:id<L.length) :
 BInv I L val cap (blB L s id)∧BUp s (blB L s id)∧(kL (blB L s id).K id).isSome=true∧Nb (blB L s id).S.gs.length (kx (blB L s id).K id)∧Tl (mdl I (blB L s id).S.gs) (kx (blB L s id).K id) (val id):=by
 obtain ⟨i1,u1⟩:=QgM cx hs id
 have hk:=Qil (QjQ cx hf hs h0 h1)
 obtain ⟨-,k2,k3⟩:=i1.k.get hk
 exact ⟨i1,u1,hk,k2,k3⟩
theorem BUp.lv {s':Bs} (u:BUp s s') {l:Int} (hl:lit s.S.gs.length l):lit s'.S.gs.length l∧lv (mdl I s'.S.gs) l=lv (mdl I s.S.gs) l:=⟨Zu u.g hl,ZO u.g hl⟩
def bT' (g:Gr) (B:Bv) (s:Bs) (e:Nat):List (Option Ob):=bH g B s.S s.K ⟨e,s.E⟩
variable {P:Program} {G:Nat→Option V} {B:Bv} {t e:Nat} {g:Gr}
theorem QsX (hT:Qe P tab) (SO:Q1 P) {val:Int→Int} (cx:Ctx I g.L val) (hf:QeA g.L) (hs:BInv I g.L val cap s) (hLl:g.L.length≤1000000) {id:Int} (h0:0≤id) (h1:id<g.L.length) :
 C P G 5 Q4 [.ptr 7 g.b 0,.int .i64 id] ⟨t,bT' g B s e⟩ fun v σ=>v=.tup [.lst 1 (Qb (kx (blB g.L s id).K id)) false,.bool true]∧∃ t' B' e',t≤t'∧σ=⟨t',bT' g B' (blB g.L s id) e'⟩ :=
 k_Bits hT SO cx hs hLl (QjQ cx hf hs h0 h1)
theorem QwX (hT:Qe P tab) (SO:Q1 P) {val:Int→Int} (cx:Ctx I g.L val) (hf:QeA g.L) (hs:BInv I g.L val cap s) (hLl:g.L.length≤1000000) {id:Int} (h0:0≤id) (h1:id<g.L.length) :
 C P G 5 XJ [.ptr 7 g.b 0,.int .i64 id] ⟨t,bT' g B s e⟩ fun v σ=>v=.tup [.int .i64 (trS g.L s id).2,.bool true]∧∃ t' B' e',t≤t'∧σ=⟨t',bT' g B' (trS g.L s id).1 e'⟩ :=
 QLr hT SO cx hs hLl (QjQ cx hf hs h0 h1)
theorem QmZ (hT:Qe P tab) (SO:Q1 P) {val:Int→Int} (cx:Ctx I g.L val) (hf:QeA g.L) (hs:BInv I g.L val cap s) (hLl:g.L.length≤1000000) {x:Int} (x0:0≤x) (x1:x<g.L.length) (y0:0≤y) (y1:y<g.L.length) :
 C P G 5 Xq [.ptr 7 g.b 0,.int .i64 x,.int .i64 y] ⟨t,bT' g B s e⟩ fun v σ=>v=.tup [.int .i64 (dfS g.L s x y).2,.bool true]∧∃ t' B' e',t≤t'∧σ=⟨t',bT' g B' (dfS g.L s x y).1 e'⟩ :=
 (QAg hT SO cx hs hLl (QjQ cx hf hs x0 x1) (QjQ cx hf (QgM cx hs x).1 y0 y1)).conseq fun v σ ⟨r,hr,hv,hσ⟩=>by subst hr; exact ⟨hv,hσ⟩
end Go.Proofs.YtoeicjlflmmmcaaGreatDoor
namespace Go.Proofs.YtoeicjlflmmmcaaGreatDoor
open Go Go.Am Go.Bl
set_option maxRecDepth 100000
variable {P:Program} {G:Nat→Option V}
set_option maxHeartbeats 1000000
section
attribute [local go_sem] nFq lR zA zL beq_self_eq_true Yh zq3_0 zq3_1 zq3_2 zq3_3 zq3_4 zq3_5 zq3_6 zq3_7
def wL:List Nd:=[⟨2,0,0,0,0,0⟩,⟨1,5,0,0,0,0⟩,⟨1,1,0,0,0,0⟩,⟨4,0,0,1,0,2⟩]
theorem wL_i:∀ d∈wL,i64 d.n∧i64 d.a:=by
 intro d hd
 simp only [wL,List.mem_cons,List.not_mem_nil,or_false] at hd
 rcases hd with rfl | rfl | rfl | rfl <;> exact ⟨⟨by decide,by decide⟩,⟨by decide,by decide⟩⟩
theorem QwH:Qh3 wL=wL:=by decide
theorem wL_ids:QjY wL=[0,1,2,3]:=by decide
theorem wL_ok:okN wL:=QwH▸Qm4 wL wL_i
theorem Qmd:QeA wL:=fun id h0 h1=>by
 have h1:id<4:=h1
 rcases (show id=0∨id=1∨id=2∨id=3 by omega) with rfl | rfl | rfl | rfl <;> rfl
theorem w_S:∀ x∈[(4:Int)],i64 x:=by
 intro x hx
 simp at hx
 subst hx
 exact ⟨by decide,by decide⟩
theorem w_C:∀ c∈([]:List Cl),i64 c.n:=by simp
theorem QtQ:Ctx (Qbp [4] [] wL) wL (val [4] [] wL):=Qjf wL_ok w_S w_C
theorem QlC (hT:Qe P tab) (F:Fmt P G) (SO:Q1 P):Pure P G Qa2 [] fun v=>v=.bool true:=by
 intro t
 have i0:BInv (Qbp [4] [] wL) wL (val [4] [] wL) 400000 b0:=inv0 (by decide) (by decide)
 have hM:=QnA (P:=P) hT F (t:=t) wL true wL_i (by decide)
 rw [QwH,wL_ids] at hM
 refine Qj 0 (zL _) (Qo hT QJ (by simp [Yh]) (Qm 1000 ?_))
 simp -implicitDefEqProofs (disch:=omega) only [go_sem,↓reduceIte,reduceCtorEq,rA,rq,rL]
 refine call hT Yv hM 1000 fun v σ hv=>?_
 obtain ⟨v0,v1,v2,v3,v4,t1,ht1,rfl,rfl⟩:=hv
 simp -implicitDefEqProofs (disch:=omega) only [go_sem,↓reduceIte,reduceCtorEq,rA,rq,rT]
 refine call hT Qan (Xj (by decide) (by simp [kG]) (k_New hT)) 1000 fun v σ hv=>?_
 obtain ⟨m,k,b,n,t2,B2,e2,ht2,rfl,rfl⟩:=hv
 simp -implicitDefEqProofs (disch:=omega) only [go_sem,↓reduceIte,reduceCtorEq,rA,rq,Int.reduceToNat,Int.reduceLE,Qb,List.map_cons,List.map_nil]
 have hT1:=QwX (P:=P) (G:=G) (g:=⟨F.fmt,v0,v1,v2,v3,v4,m,k,b,n,wL⟩) (t:=t2) (B:=B2) (e:=e2) (id:=1) hT SO QtQ Qmd i0 (show 4≤1000000 by decide) (by decide) (show (1:Int)<4 by decide)
 obtain ⟨i1,u1,l1,w1⟩:=tr_ok QtQ Qmd i0 (by decide) (id:=1) (by decide) (by decide)
 refine call hT Xc (Xj (by decide) (by rw [Q8]; decide) hT1) 1000 fun v σ hv=>?_
 clear hT1
 obtain ⟨rfl,t3,B3,e3,ht3,rfl⟩:=hv
 generalize trS wL b0 1=r1 at *
 simp -implicitDefEqProofs (disch:=omega) only [go_sem,↓reduceIte,reduceCtorEq,rA,rq,rT,Int.reduceToNat,Int.reduceLE]
 have hT2:=QmZ (P:=P) (G:=G) (g:=⟨F.fmt,v0,v1,v2,v3,v4,m,k,b,n,wL⟩) (t:=t3) (B:=B3) (e:=e3) (x:=0) (y:=0) hT SO QtQ Qmd i1 (show 4≤1000000 by decide) (by decide) (show (0:Int)<4 by decide) (by decide) (show (0:Int)<4 by decide)
 obtain ⟨i2,u2,l2,w2⟩:=QLX QtQ Qmd i1 (by decide) (x:=0) (y:=0) (by decide) (by decide) (by decide) (by decide)
 refine call hT QQ (Xj (by decide) (by unfold bT'; rw [Q8]; decide) hT2) 1000 fun v σ hv=>?_
 clear hT2
 obtain ⟨rfl,t4,B4,e4,ht4,rfl⟩:=hv
 generalize dfS wL r1.1 0 0=r2 at *
 simp -implicitDefEqProofs (disch:=omega) only [go_sem,↓reduceIte,reduceCtorEq,rA,rq,rT,Int.reduceToNat,Int.reduceLE]
 have hT3:=QsX (P:=P) (G:=G) (g:=⟨F.fmt,v0,v1,v2,v3,v4,m,k,b,n,wL⟩) (t:=t4) (B:=B4) (e:=e4) (id:=3) hT SO QtQ Qmd i2 (show 4≤1000000 by decide) (by decide) (show (3:Int)<4 by decide)
 obtain ⟨i3,u3,k3,l3,w3⟩:=QMp QtQ Qmd i2 (id:=3) (by decide) (by decide)
 refine call hT QR (Xj (by decide) (by unfold bT'; rw [Q8]; decide) hT3) 1000 fun v σ hv=>?_
 clear hT3
 obtain ⟨rfl,t5,B5,e5,ht5,rfl⟩:=hv
 generalize blB wL r2.1 3=r3 at *
 simp -implicitDefEqProofs (disch:=omega) only [go_sem,↓reduceIte,reduceCtorEq,rA,rq,rL,rT]
 have hgl:r3.S.gs.length≤9000000:=by have:=i3.g; have:=i3.hc; omega
 have hMo:=Qth (P:=P) (G:=G) (g:=⟨F.fmt,v0,v1,v2,v3,v4,m,k,b,n,wL⟩) (t:=t5) (B:=B5) (S:=r3.S) (K:=r3.K) (E:=⟨e5,r3.E⟩) hT SO (show 4≤1000000 by decide) wL_ok [4] w_S true [] (by decide) w_C false i3.k.ok.wf hgl
 refine call hT QM (Xj (by decide) (by unfold bT'; rw [Q8]; decide) (QyS (.cons _ _ _ _ (.refl _) (.cons _ _ _ _ (.agg _ _ (.cons _ _ _ _ (.refl _) (.cons _ _ _ _ (.lst 0 4 [] [] true .nil (.inl rfl)) .nil))) .nil)) hMo)) 1000 fun v σ hv=>?_
 clear hMo
 obtain ⟨rfl,t6,ht6,rfl⟩:=hv
 have hml:(mdl (Qbp [4] [] wL) r3.S.gs).length=r3.S.gs.length:=Zi _
 obtain ⟨l1',w1'⟩:=(u2.trans u3).lv (I:=Qbp [4] [] wL) l1
 obtain ⟨l2',w2'⟩:=u3.lv (I:=Qbp [4] [] wL) l2
 rw [w1,show decide (val [4] [] wL 1≠0)=true from by decide] at w1'
 rw [w2,show decide (val [4] [] wL 0≠val [4] [] wL 0)=false from by decide] at w2'
 rw [show val [4] [] wL 3=5 from by decide] at w3
 rw [← hml] at l1' l2' l3 hgl
 have h1:=Qfy (P:=P) (G:=G) hT l1' hgl
 have h2:=Qfy (P:=P) (G:=G) hT l2' hgl
 have h3:=QtD (P:=P) (G:=G) hT l3 hgl w3 (by unfold Qll; omega)
 rw [w1'] at h1
 rw [w2'] at h2
 have nM:Qf (.lst 1 (nbs (mdl (Qbp [4] [] wL) r3.S.gs)) false)=true:=by simp [Qf]
 simp -implicitDefEqProofs (disch:=omega) only [go_sem,↓reduceIte,reduceCtorEq,rA,rq]
 refine Qy hT Xp h1 (by simp [Qc,Qf]) 1000 ?_
 simp -implicitDefEqProofs (disch:=omega) only [go_sem,↓reduceIte,reduceCtorEq,rA,rq]
 refine Qy hT Xp h2 (by simp [Qc,Qf]) 1000 ?_
 simp -implicitDefEqProofs (disch:=omega) only [go_sem,↓reduceIte,reduceCtorEq,rA,rq]
 refine Qy hT Zd h3 (by simp [Qc,Qf]) 1000 ?_
 simp -implicitDefEqProofs (disch:=omega) only [go_sem,↓reduceIte,reduceCtorEq,rA,rq]
end
end Go.Proofs.YtoeicjlflmmmcaaGreatDoor
namespace Go.Proofs.YtoeicjlflmmmcaaGreatDoor
open Go Go.Am Go.Bl
set_option maxRecDepth 100000
variable {G:Nat→Option V}
set_option maxHeartbeats 1000000
section
attribute [local go_sem] nFq nT lR Nat.mul_one zA Xi QJH QJG QJF QJE QJD QJC QJB QJA QJz QJy decide_false decide_true Q3
def fH (g:Gr) (B:Bv) (S:St) (K:List (Int × List Int)) (E:Ev) (vn:Nat) (N:List (List Int)) (v2 vf w w15 u i:Nat):List (Option Ob) :=
 bN g B S K E vn N++[some (.arr v2 53 [.int .i64 0,.lst 0 [] true]),some (.arr vf 53 [.int .i64 S.gs.length,.sl 14 w 0 1 i none]),some (.arr w 42 (((S.cs++N).take i).map row)),some (.arr w15 51 [.sl 9 B.c 0 1 S.cs.length none,.sl 11 vn 0 1 N.length none]),some (.arr u 42 (S.cs.map trw++N.map row))]
variable {N:List (List Int)} {t vn:Nat} {E:Ev} {K:List (Int × List Int)} {S:St} {B:Bv} {g:Gr}
theorem Quc (hT:Qe Tryz.prog tab) (h0:0<S.cs.length) (hl:S.cs.length+N.length≤1048576) (hg:S.gs.length≤9000000) (hc:∀ c∈S.cs++N,c.length≤1000000) :
 C Tryz.prog G 12 QZ [.ptr 7 g.b 0] ⟨t,bN g B S K E vn N⟩ fun v σ=>∃ t' w o12 o13,t≤t'∧v=.agg [.int .i64 S.gs.length,.sl 14 w 0 1 (S.cs.length+N.length) none]∧15≤σ.o.length∧List.take 15 σ.o=bN g B S K E vn N++[o12,o13,some (.arr w 42 ((S.cs++N).map row))]∧σ.t=t':=by
 have hsn:(S.cs++N).length=S.cs.length+N.length:=lA
 refine Qo hT Qt (by simp [Xi]) (Qm 23 ?_)
 simp -implicitDefEqProofs (disch:=omega) only [go_sem,↓reduceIte,reduceCtorEq,rA,rq,rL,m_7,QaQ,Qxt,m13,ms13,lA,lC,lN,cA,nA,true_implies,and_true]
 refine QX (HShift.shift (HShift.ownAt 1 42 (k:=13) (p:=1) (by decide) rfl rfl)) ?_
 refine Qg 1000 ?_
 simp -implicitDefEqProofs (disch:=omega) only [go_sem,↓reduceIte,reduceCtorEq,rA,rq,rL,m_7,QaQ,Qxt,ms13,lA,lC,lN,cA,nA,true_implies,and_true,List.set_cons_succ,List.set_cons_zero]
 refine call hT QaH (QAW hT h0 hl) 1000 fun v σ hv=>?_
 obtain ⟨t1,u,ht1,rfl,rfl⟩:=hv
 simp -implicitDefEqProofs (disch:=omega) only [go_sem,↓reduceIte,reduceCtorEq,rq]
 refine Yn (S.cs++N) (fun i fr σ=>∃ t' vf w,t≤t'∧Qd fr 2=.ptr 12 t 0∧Qd fr 3=.ptr 13 vf 0∧Qd fr 24=.sl 16 u 0 1 (S.cs.length+N.length) none∧Qd fr 25=.int .i64 (S.cs.length+N.length:Nat)∧Qd fr 26=.int .i64 ((i:Nat):Int)∧σ=⟨t',fH g B S K E vn N t vf w (t+1+1+1) u i⟩) (fun e fr σ=>e=.ex 0∧∃ t' vf w,t≤t'∧Qd fr 2=.ptr 12 t 0∧Qd fr 3=.ptr 13 vf 0∧σ=⟨t',fH g B S K E vn N t vf w (t+1+1+1) u (S.cs++N).length⟩) ?_ (fun i c hci fr σ hJ=>?_) (fun i hi fr σ hJ=>?_) (fun e fr σ hE=>?_)
 ·exact ⟨t1,t+1,t+1+1,by omega,rfl,rfl,rfl,rfl,rfl,rfl⟩
 ·obtain ⟨t',vf,w,ht,f2,f3,f24,f25,f26,rfl⟩:=hJ
  have hlt':=(List.getElem?_eq_some_iff.1 hci).1
  have hlt:i<S.cs.length+N.length:=by omega
  have h3:=hc c (List.mem_of_getElem? hci)
  have hki:(i:Int)<((S.cs.length+N.length:Nat):Int):=by omega
  have hk0:(0:Int)≤(i:Int):=by omega
  have hw:IntKind.i64.wrap ((i:Int)+1)=((i+1:Nat):Int):=by rw [wrap_i64 (by omega) (by omega)]; omega
  obtain ⟨tg,gu⟩:∃ tg,(S.cs.map trw++N.map row).getD i V.any=.lst 1 (Qb c) tg:=by
   rw [List.getD_eq_getElem?_getD,List.getElem?_append]
   rw [List.getElem?_append] at hci
   rw [lM]
   split at hci
   ·rename_i h; rw [if_pos h,List.getElem?_map,hci]; exact ⟨true,rfl⟩
   ·rename_i h; rw [if_neg h,List.getElem?_map,hci]; exact ⟨false,rfl⟩
  have hiT:(((S.cs++N).take i).map row).length=i:=by rw [lM,List.length_take]; omega
  have hts:((S.cs++N).take (i+1)).map row=((S.cs++N).take i).map row++[row c]:=by rw [List.take_add_one,hci]; simp
  have hti:List.take i (((S.cs++N).take i).map row)=((S.cs++N).take i).map row:=List.take_of_length_le (by omega)
  unfold fH
  refine Qh [(2,.ptr 12 t 0),(3,.ptr 13 vf 0),(24,.sl 16 u 0 1 (S.cs.length+N.length) none),(25,.int .i64 (S.cs.length+N.length:Nat)),(26,.int .i64 ((i:Nat):Int))] ⟨f2,f3,f24,f25,f26,trivial⟩  1000 ?_
  simp -implicitDefEqProofs (disch:=omega) only [go_sem,↓reduceIte,rA,rq,QaQ,m13,m16,lM,lA,lC,lN,true_implies,true_and,and_true,hki,hk0,hlt,Int.toNat_natCast,gu]
  refine QlB hT QP (Qti hT (.inr rfl) h3) 1000 fun v σ hv=>?_
  obtain ⟨rfl,t2,ht2,rfl⟩:=hv
  simp -implicitDefEqProofs (disch:=omega) only [go_sem,↓reduceIte,reduceCtorEq,rA,rq,rL,m13,m14,ms13,ms14,lC,lN,cA,nA,true_and,and_true,hw,hiT]
  refine ⟨_,_,Shift.refl _ _ _ _,t2+1,vf,t2,by omega,?_⟩
  simp -implicitDefEqProofs (disch:=omega) only [go_sem,↓reduceIte,rq,hts]
  try rfl
 ·obtain ⟨t',vf,w,ht,f2,f3,f24,f25,f26,rfl⟩:=hJ
  have hi':i=S.cs.length+N.length:=by omega
  rw [hi,hsn] at f26
  refine Qh [(2,.ptr 12 t 0),(3,.ptr 13 vf 0),(24,.sl 16 u 0 1 (S.cs.length+N.length) none),(25,.int .i64 (S.cs.length+N.length:Nat)),(26,.int .i64 (S.cs.length+N.length:Nat))] ⟨f2,f3,f24,f25,f26,trivial⟩ 1000 ?_
  simp -implicitDefEqProofs (disch:=omega) only [go_sem,↓reduceIte,rq,lA,true_and,Int.lt_irrefl]
  rw [hi']
  exact ⟨t',vf,w,ht,rfl,rfl,rfl⟩
 ·obtain ⟨rfl,t',vf,w,ht,f2,f3,rfl⟩:=hE
  refine XN [(2,.ptr 12 t 0),(3,.ptr 13 vf 0)] ⟨f2,f3,trivial⟩ 1000 ?_
  unfold fH
  rw [List.take_length]
  simp -implicitDefEqProofs (disch:=omega) only [go_sem,↓reduceIte,reduceCtorEq,rA,rq,rL,QaQ,m12,m13,ms12,lA,lC,lN,cA,nA,false_implies,true_and,and_true]
  exact ⟨t',w,_,_,ht,rfl,rfl,rfl⟩
theorem bN_und:Qd6 12 (bN g B S K E vn N)=true:=by
 refine Qkg Qtj ?_
 have h2:=QkK (j:=12) 2 S.gs.tail
 have h3:QU 12 (E.l.map fun x=>V.int .i64 x)=true:=Ql _ (XR E.l)
 have h4:∀ l:List Int,QU 12 (l.map fun x=>V.int .i64 x)=true:=fun l=>Ql _ (XR l)
 have h5:∀ a b:V,(a,b)∈byE S.gs→V.under 12 b=true:=h2
 simp [Qd6,Ob.under,QU,V.under,Ql _ (QgY S.gs),Ql _ (QeJ S.cs),Ql _ (Qq5 N),h3,kEn,-List.all_eq_true]
 refine ⟨List.all_eq_true.2 fun p hp=>h5 p.1 p.2 hp,List.all_eq_true.2 fun p _=>h4 p.2⟩
theorem QIm {k w b:Nat} {cs:List V} (hk:12≤k) {o:List (Option Ob)} (h:List.take 12 o=bN g B S K E vn N):List.take 12 (Q6 (Zw k w cs) b (o.set k none))=bN g B S K E vn N:=by
 have e:o=bN g B S K E vn N++o.drop 12:=by rw [← h,List.take_append_drop]
 rw [e,List.set_append_right _ _ (by rw [QaQ]; exact hk)]
 refine List.ext_getElem? fun m=>?_
 rw [List.getElem?_take]
 split
 ·rename_i hm
  rw [YX,List.getElem?_append_left (by rw [QaQ]; exact hm)]
  split
  ·rfl
  ·cases h:(bN g B S K E vn N)[m]? with
   | none=>rfl
   | some x =>
     cases x with
     | none=>rfl
     | some ob=>simp only [Option.map_some]; rw [Qxc hk ob (QbN bN_und m ob h)]
 ·rename_i hm
  rw [List.getElem?_eq_none (by rw [QaQ]; omega)]
theorem Qmt (hT:Qe Tryz.prog tab) (h0:0<S.cs.length) (hl:S.cs.length+N.length≤1048576) (hg:S.gs.length≤9000000) (hc:∀ c∈S.cs++N,c.length≤1000000) :
 C Tryz.prog G 12 QZ [.ptr 7 g.b 0] ⟨t,bN g B S K E vn N⟩ fun v σ=>v=fml S.gs.length (S.cs++N)∧∃ t',t≤t'∧σ=⟨t',bN g B S K E vn N⟩:=by
 refine Qj 12 (by decide) (QaT (Quc hT h0 hl hg hc) fun v σ hq=>?_)
 obtain ⟨t',w,o12,o13,ht,rfl,hlen,htk,ht'⟩:=hq
 have hg14:σ.o[14]?=some (some (.arr w 42 ((S.cs++N).map row))):=by
  have:=List.getElem?_take (l:=σ.o) (i:=15) (j:=14)
  rw [if_pos (by decide),htk] at this
  rw [← this]; rfl
 refine .inr ⟨14,w,42,(S.cs++N).map row,by decide,hg14,Qq5 _,?_,?_,σ.t,by omega,?_⟩
 ·simp only [QW,List.length_set]; omega
 ·have hall:∀ u∈(S.cs++N).map row,u.cells=[u]:=fun u hu=>by
   obtain ⟨a,_,rfl⟩:=List.mem_map.1 hu
   rfl
  have:=QxU (k:=14) (w:=w) (sz:=1) (cs:=(S.cs++N).map row) hall
  rw [lM,lA] at this
  simp only [Zw,QqK,fml] at this ⊢
  first | rw [this]
 ·have e:List.take 12 σ.o=bN g B S K E vn N:=by
   have:=congrArg (List.take 12) htk
   rw [List.take_take] at this
   exact this
  show H.mk _ (List.take 12 (Q6 _ 12 (σ.o.set 14 none)))=_
  rw [QIm (by decide) e]
theorem Qub (hT:Qe Tryz.prog tab) (h0:0<S.cs.length) (hl:S.cs.length≤1048576) (hg:S.gs.length≤9000000) (hc:∀ c∈S.cs,c≠[]∧c.length≤3) :
 C Tryz.prog G 12 QZ [.ptr 7 g.b 0] ⟨t,bH g B S K E⟩ fun v σ=>v=fml S.gs.length S.cs∧∃ t',t≤t'∧σ=⟨t',bH g B S K E⟩:=by
 have h:=Qmt (G:=G) hT (g:=g) (B:=B) (S:=S) (K:=K) (E:=E) (t:=t) (vn:=g.n) (N:=[]) h0 (by simpa using hl) hg (fun c hcm=>by have:=(hc c (by simpa using hcm)).2; omega)
 rw [List.append_nil] at h
 exact h
end
end Go.Proofs.YtoeicjlflmmmcaaGreatDoor
namespace Go.Proofs.YtoeicjlflmmmcaaGreatDoor
open Go Go.Am Go.Bl
set_option maxRecDepth 100000
variable {P:Program} {G:Nat→Option V}
set_option maxHeartbeats 1000000
section
attribute [local go_sem] nFq aZ lR zA zL beq_self_eq_true decide_false decide_true gt_iff_lt QoQ QoP Qwr Qwq Qwp Qwo
variable {b:Bool} {cs:List V} {k w n e t base i:Nat}
theorem Qfc {z:Nat} {l:List V}:Zw k w cs (.lst z l b)=.lst z l b:=rfl
theorem Qlm {t:IntKind} {i:Int}:Zw k w cs (.int t i)=.int t i:=rfl
theorem Qfd:Zw k w cs (.bool b)=.bool b:=rfl
theorem QjL {o:Nat} {x:V}:Zw k w cs (.ref x o)=.ref x o:=rfl
theorem Qh9 {v o:Nat} (h:n≠k):Zw k w cs (.ptr n v o)=.ptr n v o:=by simp [Zw,h]
variable {a ev:V}
theorem Qfb:Zw k w (a::cs) (.ptr k w 0)=.ref (.agg (a::cs)) 0:=by simp [Zw]
variable {s:Bs} {B:Bv} {g:Gr}
theorem Q7:(bT' g B s e).length=12:=Q8
theorem QlH {ex:List (Option Ob)}:(bT' g B s e++ex).length=12+ex.length:=QK
theorem Qiq {x:Option Ob} {ex:List (Option Ob)}:(bT' g B s e++x::ex)[12]?=some x:=rfl
theorem Qcq {x y:Option Ob} {ex:List (Option Ob)}:(bT' g B s e++x::ex).set 12 y=bT' g B s e++y::ex:=rfl
variable {fr:Fr}
theorem Qky {T:Nat} {ex:List (Option Ob)} (hn:Qc (a::cs)=true) :
 Shift G n 0 fr ⟨t,bT' g B s e++some (.arr w T (a::cs))::ex⟩ (Qpy 12 w (a::cs) fr) ⟨t,bT' g B s e⟩:=by
 refine (Shift.freeze (k:=12) (v:=w) (T:=T) (cs:=a::cs) (zL _) rfl hn).trans ?_
 have h:=Xd 12 (Q6 (Zw 12 w (a::cs)) 0 (((bT' g B s e++some (.arr w T (a::cs))::ex)).set 12 none))
 rw [Qcq] at h
 have e2:List.take 12 (Q6 (Zw 12 w (a::cs)) 0 (bT' g B s e++none::ex))=bT' g B s e:=QxV (lR _)
 rw [e2] at h
 rw [Qcq]
 exact Shift.drop h (lR _) (zL _)
theorem QnF {ex:List (Option Ob)}:Shift G n 0 fr ⟨t,bT' g B s e++ex⟩ fr ⟨t,bT' g B s e⟩:=by
 have h:=Xd 12 (bT' g B s e++ex)
 have e2:List.take 12 (bT' g B s e++ex)=bT' g B s e:=Qag
 rw [e2] at h
 exact Shift.drop h (lR _) (zL _)
theorem QeS (hT:Qe P tab) :
 C P G base Y3 [.ptr 1 g.v0 0] ⟨t,bT' g B s e⟩ fun v σ=>v=.int .i64 g.L.length∧∃ t',t≤t'∧σ=⟨t',bT' g B s e⟩:=QxC hT
theorem q_Node (hT:Qe P tab) {id:Int} (hid:0≤id∧id<g.L.length) :
 C P G base X1 [.ptr 1 g.v0 0,.int .i64 id] ⟨t,bT' g B s e⟩ fun v σ=>v=.tup [.agg (nd g.L id).cells,.bool true]∧∃ t',t≤t'∧σ=⟨t',bT' g B s e⟩:=QH4 hT hid base t B
variable {x y:Int}
theorem q_Of (hT:Qe P tab) (SO:Q1 P) (hL:g.L.length≤1000000) (hok:okN g.L) {Sy:List Int} (hS:∀ x∈Sy,i64 x) {C':List Cl} (hC:C'.length≤1000000) (hCn:∀ c∈C',i64 c.n) {tS tC:Bool} (h0:0≤x) (h1:x<g.L.length) :
 C P G base Qc8 [.ptr 1 g.v0 0,QiX Sy tS 4 C' tC,.int .i64 x] ⟨t,bT' g B s e⟩ fun v σ=>v=.tup [.int .i64 (val Sy C' g.L x),.bool true]∧∃ t',t≤t'∧σ=⟨t',bT' g B s e⟩:=by
 have h:=x_Of (P:=P) (G:=G) (base:=base) (t:=t) (g:=g) (B:=B) (S:=s.S) (K:=s.K) (E:=⟨e,s.E⟩) (ex:=[]) hT SO hL hok Sy hS tS C' hC hCn tC x
 rw [List.append_nil] at h
 rw [ofV,if_pos ⟨h0,h1⟩] at h
 exact h
theorem QKO (hT:Qe P tab) (SO:Q1 P) {I:Int→Int→Bool} {cap:Nat} {val:Int→Int} (cx:Ctx I g.L val) (hs:BInv I g.L val cap s) (hLl:g.L.length≤1000000) {id:Int} (h0:0≤id) (h1:id<g.L.length) (hf:QgZ g.L id=true) :
 C P G 5 Q4 [.ptr 7 g.b 0,.int .i64 id] ⟨t,bT' g B s e⟩ fun v σ=>v=.tup [.lst 0 [] true,.bool false] :=
 (QLt hT SO cx hs hLl (QMi cx.wf h0 h1 hf)).conseq fun v σ h=>h.1
abbrev eR (Sy:List Int) (tS:Bool) (C':List Cl) (tC:Bool):V:=.ref (.agg [.lst 1 (Qb Sy) tS,.lst 4 (C'.map Cl.v) tC]) 0
def l1J (g:Gr) (B:Bv) (e:Nat) (x y:Int) (ev:V) (i:Nat) (fr:Fr) (σ:H):Prop :=
 ∃ t,σ=⟨t,bT' g B b0 e⟩∧(∀ j:Int,0≤j→j<i→QgZ g.L j=false)∧Qd fr 2=.int .i64 x∧Qd fr 3=.int .i64 y∧Qd fr 5=ev∧Qd fr 9=.ptr 1 g.v0 0∧Qd fr 11=.ptr 7 g.b 0∧Qd fr 12=.int .i64 ((i:Nat):Int)
def l1E (g:Gr) (B:Bv) (e:Nat) (x y:Int) (ev:V) (ae:AE) (fr:Fr) (σ:H):Prop :=
 (ae=.ret∧Qd fr 8=.bool true)∨(ae=.ex 0∧QeA g.L∧∃ t,σ=⟨t,bT' g B b0 e⟩∧Qd fr 2=.int .i64 x∧Qd fr 3=.int .i64 y∧Qd fr 5=ev∧Qd fr 9=.ptr 1 g.v0 0∧Qd fr 11=.ptr 7 g.b 0)
variable {σ:H}
theorem Qz6 (hT:Qe P tab) (F:Fmt P G) (SO:Q1 P) {I:Int→Int→Bool} {cap:Nat} {val:Int→Int} (cx:Ctx I g.L val) (hs:BInv I g.L val cap b0) (hLl:g.L.length≤1000000) (hi:i<g.L.length) (hJ:l1J g B e x y ev i fr σ) :
 W P G 235 0 wg fr σ (Qbb (fun fr σ=>∃ fr' σ',Shift G 235 0 fr σ fr' σ'∧l1J g B e x y ev (i+1) fr' σ') (l1E g B e x y ev)):=by
 obtain ⟨t,rfl,hnf,f2,f3,f5,f9,f11,f12⟩:=hJ
 have hki:(i:Int)<g.L.length:=by omega
 have hk0:(0:Int)≤(i:Int):=by omega
 have hw:=QhJ hi (by omega)
 have g0:(nd g.L i).cells.getD 0 V.any=.int .u8 (nd g.L i).kind:=rfl
 have g1:(nd g.L i).cells.getD 1 V.any=.int .i64 (nd g.L i).n:=rfl
 have g6:(nd g.L i).cells.length=6:=rfl
 have gt6:List.take 6 (nd g.L i).cells=(nd g.L i).cells:=rfl
 have gd6:List.drop 6 (nd g.L i).cells=[]:=rfl
 refine Qh [(2,.int .i64 x),(3,.int .i64 y),(5,ev),(9,.ptr 1 g.v0 0),(11,.ptr 7 g.b 0),(12,.int .i64 ((i:Nat):Int))] ⟨f2,f3,f5,f9,f11,f12,trivial⟩  1000 ?_
 simp -implicitDefEqProofs (disch:=omega) only [go_sem,↓reduceIte,rq]
 refine call hT QB (QeS hT) 1000 fun v σ hv=>?_
 obtain ⟨rfl,t1,ht1,rfl⟩:=hv
 simp -implicitDefEqProofs (disch:=omega) only [go_sem,↓reduceIte,rq,hki]
 refine call hT XE (q_Node hT ⟨hk0,hki⟩) 20 fun v σ hv=>?_
 obtain ⟨rfl,t2,ht2,rfl⟩:=hv
 have ho:ones (nd g.L i).cells:=QbP rfl
 by_cases hf2:(nd g.L i).kind=2
 ·by_cases hf3:65536<(nd g.L i).n
  ·have hf:QgZ g.L i=true:=by simp [QgZ,hf2,hf3]
   simp -implicitDefEqProofs (disch:=omega) only [go_sem,↓reduceIte,rA,rq,rL,rT,Q7,Qiq,Qcq,lC,lN,nA,true_implies,and_true,g0,g1,g6,hf2,hf3,ho]
   refine QX QnF (Qg 1000 ?_)
   simp -implicitDefEqProofs (disch:=omega) only [go_sem,↓reduceIte,rq]
   refine call hT QR (Xj (by decide) (by rw [Q7]; decide) (QKO hT SO cx hs hLl hk0 hki hf)) 1000 fun v σ hv=>?_
   subst hv
   simp -implicitDefEqProofs (disch:=omega) only [go_sem,↓reduceIte,rA,rq,rT,lC,lN]
   refine Qy hT QJ (QlC hT F SO) rfl 1000 ?_
   simp -implicitDefEqProofs (disch:=omega) only [go_sem,↓reduceIte,rq]
   first | exact .inl ⟨rfl,rfl⟩
  ·have hf:QgZ g.L i=false:=by simp [QgZ,hf3]
   simp -implicitDefEqProofs (disch:=omega) only [go_sem,↓reduceIte,rA,rq,rL,rT,Q7,Qiq,Qcq,lC,lN,nA,true_implies,and_true,g0,g1,g6,hf2,hf3,ho]
   refine Qg 1000 ?_
   simp -implicitDefEqProofs (disch:=omega) only [go_sem,↓reduceIte,rq,hw]
   refine ⟨_,_,QnF,_,rfl,fun j j0 j1=>?_,?_⟩
   ·rcases (show j<i∨j=i by omega) with h | h
    ·exact hnf j j0 h
    ·rw [h]; exact hf
   ·simp -implicitDefEqProofs (disch:=omega) only [go_sem,↓reduceIte,rq]
 ·have hf:QgZ g.L i=false:=by simp [QgZ,hf2]
  simp -implicitDefEqProofs (disch:=omega) only [go_sem,↓reduceIte,rA,rq,rL,rT,Q7,Qiq,Qcq,lC,lN,nA,false_implies,true_implies,true_and,and_true,not_false_eq_true,g0,g1,g6,hf2,ho]
  refine Qg 1000 ?_
  simp -implicitDefEqProofs (disch:=omega) only [go_sem,↓reduceIte,rq,hw]
  refine ⟨_,_,QnF,_,rfl,fun j j0 j1=>?_,?_⟩
  ·rcases (show j<i∨j=i by omega) with h | h
   ·exact hnf j j0 h
   ·rw [h]; exact hf
  ·simp -implicitDefEqProofs (disch:=omega) only [go_sem,↓reduceIte,rq]
theorem QLf (hT:Qe P tab) (hi:i=g.L.length) (hJ:l1J g B e x y ev i fr σ) :
 W P G 235 0 wg fr σ (Qbb (fun _ _=>False) (l1E g B e x y ev)):=by
 obtain ⟨t,rfl,hnf,f2,f3,f5,f9,f11,f12⟩:=hJ
 refine Qh [(2,.int .i64 x),(3,.int .i64 y),(5,ev),(9,.ptr 1 g.v0 0),(11,.ptr 7 g.b 0),(12,.int .i64 ((i:Nat):Int))] ⟨f2,f3,f5,f9,f11,f12,trivial⟩  1000 ?_
 simp -implicitDefEqProofs (disch:=omega) only [go_sem,↓reduceIte,rq]
 refine call hT QB (QeS hT) 1000 fun v σ hv=>?_
 obtain ⟨rfl,t1,ht1,rfl⟩:=hv
 simp -implicitDefEqProofs (disch:=omega) only [go_sem,↓reduceIte,rq,hi,Int.lt_irrefl]
 exact .inr ⟨rfl,fun j j0 j1=>hnf j j0 (by omega),_,rfl,rfl,rfl,rfl,rfl,rfl⟩
end
end Go.Proofs.YtoeicjlflmmmcaaGreatDoor
