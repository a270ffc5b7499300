/- Plain: what an environment's values are to a blaster; the environment read back. -/
import Derived.Test.YtoeicjlflmmmcaaGreatDoorJ10
import Derived.Test.YtoeicjlflmmmcaaGreatDoorJ11
import Derived.Test.YtoeicjlflmmmcaaGreatDoorJ2
import Derived.Test.YtoeicjlflmmmcaaGreatDoorJ9
import Derived.Test.YtoeicjlflmmmcaaGreatDoorAmD
open Nat renaming reduceEqDiff → rq, reduceAdd → rA, reduceLeDiff → rL, reduceLT → rT, zero_add → zA, le_refl → lR, zero_le → zL, add_zero → aZ
open List renaming length_cons → lC, length_nil → lN, take_succ_cons → tSq, length_append → lA, nil_append → nA, cons_append → cA, append_assoc → aA, take_nil → tN, take_zero → tZ, length_map → lM
open Bool renaming not_false → nFq, not_true → nT
namespace Go.Proofs.YtoeicjlflmmmcaaGreatDoor
open Go Go.Am Go.Bl
set_option maxRecDepth 100000
variable {I:Int→Int→Bool} {cap:Nat}
set_option maxHeartbeats 1000000
variable {x:Int}
theorem i64_eq (h:i64 x):QiI x:=h
variable {L:List Nd}
theorem QkJ (hok:okN L) {Sy:List Int} {C':List Cl} (hS:∀ x∈Sy,i64 x) (hC:∀ c∈C',i64 c.n):Ctx (QbU Sy C' L) L (val Sy C' L) where
 wf:=hok.wf
 kd:=QbK hok
 c1:=fun id h0 h1 hk=>by rw [QeE hok.wf (QbK hok) h0 h1,QaM,if_pos hk]
 c4:=fun id h0 h1 hk=>by
  conv=>lhs; rw [QeE hok.wf (QbK hok) h0 h1,QaM,if_neg (by omega),if_neg (by omega),if_neg (by omega)]
 c3:=fun i j i0 i1 j0 j1 ki kj ha hn hy=>by
  rw [QeE hok.wf (QbK hok) i0 i1,QeE hok.wf (QbK hok) j0 j1,QaM,QaM,if_neg (by omega),if_neg (by omega),if_pos ki,if_neg (by omega),if_neg (by omega),if_pos kj,ha,hn,hy]
 bits:=fun id k h0 h1 _=>by
  show YA (voI Sy C' L id) (k:Int).toNat=_
  rw [voI,if_pos ⟨h0,h1⟩,Int.toNat_natCast]
 v64:=fun id=>i64_eq (QCC hS hC (QCT hok) id)
theorem QBs {L:List Nd} (hl:L.length≤14):∀ n,n≤L.length→rest (fC L) [] n≤n * 11520+81920 * mulN (L.take n)
 | 0,_=>by simp [rest]
 | n+1,hn=>by
   have ih:=QBs hl n (by omega)
   obtain ⟨d,hd⟩:∃ d,L[n]?=some d:=⟨_,List.getElem?_eq_getElem (by omega)⟩
   have e:nd L (n:Int)=d:=by unfold nd; rw [Int.toNat_natCast,List.getD_eq_getElem?_getD,hd]; rfl
   have hm:mulN (L.take (n+1))=mulN (L.take n)+if d.op=3 then 1 else 0:=by
    unfold mulN
    rw [List.take_add_one,hd,List.countP_append]
    simp [List.countP_cons]
   have h0:(kL [] (n:Int)).isSome=false:=rfl
   have e2:fC L (n:Int)=(if d.op=3 then 81920 else 3456)+576 * L.length:=by unfold fC QiV; rw [e]
   rw [rest,h0,if_neg (by decide),hm,e2]
   by_cases ho:d.op=3
   ·rw [if_pos ho,if_pos ho]; omega
   ·rw [if_neg ho,if_neg ho]; omega
theorem QBr {L:List Nd} (hl:L.length≤14):∀ n,n≤L.length→rest (fG L) [] n≤n * 26368
 | 0,_=>by simp [rest]
 | n+1,hn=>by
   have ih:=QBr hl n (by omega)
   have h0:(kL [] (n:Int)).isSome=false:=rfl
   have e2:fG L (n:Int)=24576+128 * L.length:=rfl
   rw [rest,h0,if_neg (by decide),e2]
   omega
theorem Qo2:∀ (l L:List Nd),mulN (l.foldl (fun L d=>(addN L d).2) L)≤mulN L+mulN l
 | [],L=>by simp [mulN]
 | d::l,L=>by
   rw [List.foldl_cons]
   have ih:=Qo2 l (addN L d).2
   have h1:mulN (addN L d).2≤mulN L+if d.op=3 then 1 else 0:=by
    unfold addN
    split
    ·split
     ·simp only; omega
     ·show mulN (L++[d])≤_
      unfold mulN
      rw [List.countP_append]
      simp [List.countP_cons]
    ·simp only; omega
   have h2:mulN (d::l)=mulN l+if d.op=3 then 1 else 0:=by simp [mulN,List.countP_cons]
   omega
theorem Quz (l:List Nd):mulN (QgD l)≤mulN l:=by
 have:=Qo2 l []
 simpa [mulN,QgD] using this
theorem QuA (l:List Nd):(QgD l).length≤l.length:=by
 have:=QlC l []
 simpa [QgD] using this
theorem inv0 {val:Int→Int} (hl:L.length≤14) (hm:mulN L≤2):BInv I L val 400000 b0:=by
 have h1:=QBs hl L.length (lR _)
 have h2:=QBr hl L.length (lR _)
 rw [List.take_length] at h1
 exact b0_inv (by omega) (by omega) (by omega)
theorem QtD {L:List Nd} {s:Bs}:∀ U:List Int,(∀ u∈U,(kL s.K u).isSome=true)→bF L U s=s
 | [],_=>rfl
 | u::U,h=>by
   have e:bT L s u=s:=by rw [bT,if_pos (h u (by simp))]
   show bF L U (bT L s u)=s
   rw [e]
   exact QtD U fun u hu=>h u (by simp [hu])
theorem QvB {s:Bs} {id:Int} (h:∀ u∈Xj L [id],(kL s.K u).isSome=true):blB L s id=s:=by
 unfold blB
 split
 ·rfl
 ·exact QtD _ h
theorem Qvn {c:List Cl} {a w v:Int} (h:∀ e∈c,isC a w x e=true→e.n=v) (hx:∃ e∈c,isC a w x e=true):Qf9 c a w x=v:=by
 have key:∀ c:List Cl,(∃ e∈c,isC a w x e=true)→∃ k n,(∀ m∈c.take k,isC a w x m=false)∧c[k]?=some n∧isC a w x n=true:=by
  intro c
  induction c with
  | nil=>rintro ⟨e,he,-⟩; cases he
  | cons y c ih =>
    intro hx
    cases hy:isC a w x y with
    | true=>exact ⟨0,y,by simp,rfl,hy⟩
    | false =>
      have:∃ e∈c,isC a w x e=true:=by
       obtain ⟨e,he,h1⟩:=hx
       rcases List.mem_cons.1 he with rfl | he
       ·rw [hy] at h1; cases h1
       ·exact ⟨e,he,h1⟩
      obtain ⟨k,n,h1,h2,h3⟩:=ih this
      refine ⟨k+1,n,fun m hm=>?_,h2,h3⟩
      rw [tSq] at hm
      rcases List.mem_cons.1 hm with rfl | hm
      ·exact hy
      ·exact h1 m hm
 obtain ⟨k,n,h1,h2,h3⟩:=key c hx
 have e:=Qni (i:=0) h1 h2 h3
 unfold Qf9
 rw [e,if_neg (by omega),show ((0+k:Nat):Int).toNat=k by omega,h2]
 exact h n (List.mem_of_getElem? h2) h3
variable {j:Nat} {s:List Int}
theorem Qpj {i:Nat} {v:Int} (h:j<s.length):(s.set i v).getD j 0=if i=j then v else s.getD j 0:=by
 rw [List.getD_eq_getElem?_getD,List.getD_eq_getElem?_getD,List.getElem?_set]
 split
 ·rename_i e; subst e; rw [if_pos h]; rfl
 ·rfl
theorem Qu2 {m:Nat}:(s++List.replicate m 0).getD j 0=s.getD j 0:=by
 rw [List.getD_eq_getElem?_getD,List.getD_eq_getElem?_getD,List.getElem?_append]
 split
 ·rfl
 ·rename_i h
  rw [List.getElem?_eq_none (l:=s) (by omega),List.getElem?_replicate]
  split <;> rfl
structure EnOk (L:List Nd) (tv:Int→Int) (done:List Int) (s:List Int) (c:List Cl):Prop where
 sy:∀ id∈done,(nd L id).kind=2→(nd L id).n.toNat<s.length∧s.getD (nd L id).n.toNat 0=tv id
 ce:∀ id∈done,(nd L id).kind=3→(⟨(nd L id).a,(nd L id).n,tv (nd L id).y,tv id⟩:Cl)∈c
 of:∀ e∈c,∃ id∈done,(nd L id).kind=3∧e=⟨(nd L id).a,(nd L id).n,tv (nd L id).y,tv id⟩
theorem en_ok {L:List Nd} {tv:Int→Int} {A:Int→Prop} (h2:∀ i j,A i→A j→(nd L i).kind=2→(nd L j).kind=2→(nd L i).n.toNat=(nd L j).n.toNat→tv i=tv j) :
 ∀ (ids done:List Int) (s:List Int) (c:List Cl),(∀ x∈done,A x)→(∀ x∈ids,A x)→EnOk L tv done s c→EnOk L tv (done++ids) (ids.foldl (enT L tv) (s,c)).1 (ids.foldl (enT L tv) (s,c)).2
 | [],done,s,c,_,_,h=>by simpa using h
 | id::ids,done,s,c,hd,hi,h=>by
   rw [List.foldl_cons]
   have step:EnOk L tv (done++[id]) (enT L tv (s,c) id).1 (enT L tv (s,c) id).2:=by
    unfold enT
    by_cases k2:(nd L id).kind=2
    ·rw [if_pos k2]
     refine ⟨fun j hj kj=>?_,fun j hj kj=>?_,fun e he=>?_⟩
     ·have hlen:((s++List.replicate ((nd L id).n.toNat+1 - s.length) 0).set (nd L id).n.toNat (tv id)).length=s.length+((nd L id).n.toNat+1 - s.length):=by simp
      rcases List.mem_append.1 hj with hj | hj
      ·obtain ⟨a1,a2⟩:=h.sy j hj kj
       refine ⟨by rw [hlen]; omega,?_⟩
       rw [Qpj (by simp; omega)]
       split
       ·rename_i e; exact h2 id j (hi id (by simp)) (hd j hj) k2 kj e
       ·rw [Qu2,a2]
      ·rw [List.mem_singleton.1 hj]
       refine ⟨by rw [hlen]; omega,?_⟩
       rw [Qpj (by simp; omega),if_pos rfl]
     ·rcases List.mem_append.1 hj with hj | hj
      ·exact h.ce j hj kj
      ·rw [List.mem_singleton.1 hj] at kj; omega
     ·obtain ⟨j,hj,k3,e3⟩:=h.of e he
      exact ⟨j,by simp [hj],k3,e3⟩
    rw [if_neg k2]
    by_cases k3:(nd L id).kind=3
    ·rw [if_pos k3]
     refine ⟨fun j hj kj=>?_,fun j hj kj=>?_,fun e he=>?_⟩
     ·rcases List.mem_append.1 hj with hj | hj
      ·exact h.sy j hj kj
      ·rw [List.mem_singleton.1 hj] at kj; omega
     ·rcases List.mem_append.1 hj with hj | hj
      ·exact List.mem_append_left _ (h.ce j hj kj)
      ·rw [List.mem_singleton.1 hj]; simp
     ·rcases List.mem_append.1 he with he | he
      ·obtain ⟨j,hj,k3',e3⟩:=h.of e he
       exact ⟨j,by simp [hj],k3',e3⟩
      ·exact ⟨id,by simp,k3,List.mem_singleton.1 he⟩
    ·rw [if_neg k3]
     refine ⟨fun j hj kj=>?_,fun j hj kj=>?_,fun e he=>?_⟩
     ·rcases List.mem_append.1 hj with hj | hj
      ·exact h.sy j hj kj
      ·rw [List.mem_singleton.1 hj] at kj; omega
     ·rcases List.mem_append.1 hj with hj | hj
      ·exact h.ce j hj kj
      ·rw [List.mem_singleton.1 hj] at kj; omega
     ·obtain ⟨j,hj,k3',e3⟩:=h.of e he
      exact ⟨j,by simp [hj],k3',e3⟩
   have:=en_ok h2 ids (done++[id]) _ _ (fun x hx=>(List.mem_append.1 hx).elim (hd x) fun h=>by rw [List.mem_singleton.1 h]; exact hi id (by simp)) (fun x hx=>hi x (by simp [hx])) step
   rw [aA] at this
   exact this
theorem Qtz {L:List Nd} (hok:okN L) {Sy:List Int} {C':List Cl} {ids:List Int} (hids:∀ x:Int,x∈ids↔0≤x∧x<L.length) {tv:Int→Int} (htv:∀ id:Int,0≤id→id<L.length→tv id=val Sy C' L id) (h0:∀ id:Int,(nd L id).kind=2→0≤(nd L id).n) :
 ∀ (f:Nat) (id:Int),id.toNat<f→0≤id→id<L.length→val (enF L tv ids).1 (enF L tv ids).2 L id=val Sy C' L id
 | 0,_,h,_,_=>absurd h (by omega)
 | f+1,id,h,i0,i1=>by
   have hE0:EnOk L tv [] [] []:=⟨(fun id h=>by cases h),(fun id h=>by cases h),(fun e h=>by cases h)⟩
   have hp3:∀ j:Int,0≤j→j<L.length→(nd L j).kind=3→0≤(nd L j).y∧(nd L j).y<j:=fun j j0 j1 kj=>Qjy hok.wf j0 j1 _ (QCM kj)
   have hsy:∀ i j:Int,i∈ids→j∈ids→(nd L i).kind=2→(nd L j).kind=2→(nd L i).n.toNat=(nd L j).n.toNat→tv i=tv j:=fun i j hi hj ki kj e=>by
    obtain ⟨a0,a1⟩:=(hids i).1 hi
    obtain ⟨c0,c1⟩:=(hids j).1 hj
    have en:(nd L i).n=(nd L j).n:=by have:=h0 i ki; have:=h0 j kj; omega
    rw [htv i a0 a1,htv j c0 c1,QeE hok.wf (QbK hok) a0 a1,QeE hok.wf (QbK hok) c0 c1,QaM,QaM,if_neg (by omega),if_pos ki,if_neg (by omega),if_pos kj,en]
   have E:EnOk L tv ([]++ids) (enF L tv ids).1 (enF L tv ids).2:=en_ok (A:=fun x=>x∈ids) hsy ids [] [] [] (fun x h=>by cases h) (fun x h=>h) hE0
   rw [nA] at E
   have him:=(hids id).2 ⟨i0,i1⟩
   have hv:=htv id i0 i1
   have hv0:=QeE (S:=Sy) (C:=C') hok.wf (QbK hok) i0 i1
   have ih:∀ p,p∈pts L id→val (enF L tv ids).1 (enF L tv ids).2 L p=val Sy C' L p:=fun p hp=>by
    have:=Qjy hok.wf i0 i1 p hp
    exact Qtz hok hids htv h0 f p (by omega) (by omega) (by omega)
   rw [QeE hok.wf (QbK hok) i0 i1,hv0]
   rcases ((QbK hok) id i0 i1).1 with k1 | k2 | k3 | k4
   ·rw [QaM,QaM,if_pos k1,if_pos k1]
   ·obtain ⟨s1,s2⟩:=E.sy id him k2
    have hn:=h0 id k2
    rw [hv,hv0] at s2
    rw [QaM,if_neg (by omega),if_pos k2] at s2 ⊢
    rw [QaM,if_neg (by omega),if_pos k2,← s2]
    unfold QqF
    rw [if_neg (by omega)]
   ·rw [QaM,QaM,if_neg (by omega),if_neg (by omega),if_pos k3,if_neg (by omega),if_neg (by omega),if_pos k3,ih _ (QCM k3)]
    obtain ⟨y0,y1⟩:=hp3 id i0 i1 k3
    refine Qvn (fun e he hc=>?_) ⟨_,E.ce id him k3,?_⟩
    ·obtain ⟨j,hj,kj,rfl⟩:=E.of e he
     obtain ⟨j0,j1⟩:=(hids j).1 hj
     obtain ⟨z0,z1⟩:=hp3 j j0 j1 kj
     unfold isC at hc
     obtain ⟨c1,c2,c3⟩:=of_decide_eq_true hc
     simp only at c1 c2 c3 ⊢
     rw [htv _ z0 (by omega)] at c3
     rw [htv j j0 j1,QeE hok.wf (QbK hok) j0 j1,QaM,if_neg (by omega),if_neg (by omega),if_pos kj,c1,c2,c3]
    ·unfold isC
     simp only [decide_eq_true_eq]
     first | exact ⟨rfl,rfl,htv _ y0 (by omega)⟩ | exact ⟨trivial,trivial,htv _ y0 (by omega)⟩
   ·rw [QaM,QaM,if_neg (by omega),if_neg (by omega),if_neg (by omega),if_neg (by omega),if_neg (by omega),if_neg (by omega),ih _ (QEt k4).1,ih _ (QEt k4).2]
end Go.Proofs.YtoeicjlflmmmcaaGreatDoor
namespace Go.Proofs.YtoeicjlflmmmcaaGreatDoor
open Go Go.Am
set_option maxRecDepth 100000
variable {P:Program} {G:Nat→Option V}
set_option maxHeartbeats 1000000
section
attribute [local go_sem] nT lR Nat.mul_one Nat.succ_ne_zero zA zL decide_false decide_true Xq XP QCx QCw QCv QCu QCt QCs QCr QCq Yr zq9_0 zq9_1 zq9_2 zq9_3
def Qlt (i:Int) (n:Nat):Int:=if n=0 then 0 else i % n
variable {n t:Nat} {i:Int}
theorem Qr8 (h:n≠0):0≤Qlt i n∧Qlt i n<n:=by
 unfold Qlt
 rw [if_neg h]
 exact ⟨Int.emod_nonneg _ (by omega),Int.emod_lt_of_pos _ (by omega)⟩
theorem QCN {n:Int} (h:0<n) (hn:n≤1000000):(IntKind.i64.wrap (i.tmod n+n)).tmod n=i % n:=by
 have h1:=Int.tmod_lt_of_pos i h
 have h2:=Int.lt_tmod_of_pos i h
 have h3:=Int.mul_tdiv_add_tmod i n
 rw [wrap_i64 (by omega) (by omega),Int.tmod_eq_emod_of_nonneg (by omega),Int.add_emod_right]
 conv=>rhs; rw [← h3]
 rw [Int.mul_add_emod_self_left]
theorem QB3 (hT:Qe P tab) (hn:n≤1000000):Pure P G Qa5 [.int .i64 i,.int .i64 (n:Int)] fun v=>v=.int .i64 (Qlt i n):=by
 intro t
 refine Qh 0 (zL _) (Qq hT ZC (by simp [Yr]) (Qn 1000 ?_))
 by_cases h:n=0
 ·subst h
  simp -implicitDefEqProofs (disch:=omega) only [go_sem,↓reduceIte,reduceCtorEq,rq,Qlt]
  exact fun h=>absurd (Int.le_refl _) h
 ·have h1:¬ (n:Int)≤0:=by omega
  have h2:¬ (n:Int)=0:=by omega
  simp -implicitDefEqProofs (disch:=omega) only [go_sem,↓reduceIte,reduceCtorEq,rq,Qlt,h,h1,h2]
  rw [QCN (by omega) (by omega)]
def Qhz (l:List Nd):List Int:=(l.foldl (fun (p:List Nd × List Int) d=>((addN p.1 d).2,p.2++[(addN p.1 d).1])) ([],[])).2
theorem QlB:∀ (l:List Nd) (p:List Nd × List Int),(l.foldl (fun (p:List Nd × List Int) d=>((addN p.1 d).2,p.2++[(addN p.1 d).1])) p).1=l.foldl (fun L d=>(addN L d).2) p.1
 | [],_=>rfl
 | d::l,p=>QlB l _
theorem QpZ {l:List Nd} {d:Nd}:Qhz (l++[d])=Qhz l++[(addN (QgD l) d).1]:=by
 have e:=QlB l ([],[])
 unfold Qhz
 rw [List.foldl_append]
 simp only [List.foldl_cons,List.foldl_nil]
 rw [e]; rfl
theorem Qsw (l:List Nd):(Qhz l).length=l.length:=by
 unfold Qhz
 have key:∀ (l:List Nd) (p:List Nd × List Int),(l.foldl (fun (p:List Nd × List Int) d=>((addN p.1 d).2,p.2++[(addN p.1 d).1])) p).2.length=p.2.length+l.length:=fun l=>by
  induction l with
  | nil=>intro p; rfl
  | cons d l ih=>intro p; rw [List.foldl_cons,ih]; simp; omega
 rw [key]; simp
theorem QDW (hT:Qe P tab) (F:Fmt P G) (l:List Nd) (tight:Bool) (hl:∀ d∈l,i64 d.n∧i64 d.a) (hll:l.length≤1000) :
 C P G 0 ZG [.lst 6 (l.map fun d=>.agg d.cells) tight] ⟨t,[]⟩ fun v σ=>∃ v0 v1 v2 v3 v4 t' r,t≤t'∧v=.tup [.ptr 1 v0 0,.sl 5 r 0 1 l.length none]∧σ=⟨t',kG F.fmt v0 v1 v2 v3 v4 (QgD l)++[some (.arr r 37 (Qb (Qhz l)))]⟩:=by
 refine Qh 6 (zL _) (Qq hT ZD (by simp [XP]) (Qn 1000 ?_))
 simp -implicitDefEqProofs (disch:=omega) only [go_sem,↓reduceIte,reduceCtorEq,rq]
 refine call hT Qjw (c_New hT (zL _)) 1000 fun v σ hv=>?_
 obtain ⟨v0,v1,v2,v3,v4,t1,i1,i2,i3,i4,ht1,rfl,rfl,rfl,rfl,rfl,rfl⟩:=hv
 simp -implicitDefEqProofs (disch:=omega) only [go_sem,↓reduceIte,reduceCtorEq,rq,lN,nA]
 refine XT (Shift.own (s:=5) (sz:=1) (T:=37) (z:=0) rfl (by decide)) (Qs 1000 ?_)
 simp -implicitDefEqProofs (disch:=omega) only [go_sem,↓reduceIte,reduceCtorEq,rA,rq,lN,nA,lC,cA]
 refine QdX (fun m fr σ=>∃ (i t' v2' v3' v4' r':Nat) (L:List Nd) (O:List Int),i≤l.length∧m=l.length - i∧L=QgD (l.take i)∧O=Qhz (l.take i)∧O.length=i∧t≤t'∧Qf fr 0=.lst 6 (l.map fun d=>.agg d.cells) tight∧Qf fr 4=.ptr 1 v0 0∧Qf fr 5=.sl 5 r' 0 1 i none∧Qf fr 6=.int .i64 i ∧
  σ=⟨t',kG F.fmt v0 v1 v2' v3' v4' L++[some (.arr r' 37 (O.map (V.int .i64)))]⟩)
  (fun e fr σ=>e=.ex 0∧Qf fr 4=.ptr 1 v0 0∧∃ (t' v2' v3' v4' r':Nat),t≤t'∧Qf fr 5=.sl 5 r' 0 1 l.length none∧σ=⟨t',kG F.fmt v0 v1 v2' v3' v4' (QgD l)++[some (.arr r' 37 (Qb (Qhz l)))]⟩)
  (m0:=l.length) ⟨0,t1+1,v2,v3,v4,t1,[],[],zL _,rfl,rfl,rfl,rfl,by omega,?_⟩ (fun m fr σ hJ=>?_) (fun e fr σ hE=>?_)
 ·simp -implicitDefEqProofs (disch:=omega) only [go_sem,↓reduceIte,reduceCtorEq,rq]
  exact ⟨rfl,rfl⟩
 ·obtain ⟨i,t',v2',v3',v4',r',L,O,hi,rfl,hLe,hOe,hO,ht',f0,f4,f5,f6,rfl⟩:=hJ
  have hLl:L.length≤i:=by
   have:=QlC (l.take i) []
   rw [hLe]; simp [QgD] at this ⊢; omega
  refine Qn 1000 ?_
  rcases Nat.lt_or_ge i l.length with hlt | hge
  ·obtain ⟨d,hd⟩:∃ d,l[i]?=some d:=⟨_,List.getElem?_eq_getElem hlt⟩
   obtain ⟨hn,ha⟩:=hl d (List.mem_of_getElem? hd)
   have hc6:d.cells.length=6:=rfl
   have ht6:d.cells.take 6=d.cells:=rfl
   have hg:(l.map fun d=>V.agg d.cells).getD i .any=.agg d.cells:=by simp [List.getD_eq_getElem?_getD,hd]
   simp -implicitDefEqProofs (disch:=omega) only [go_sem,↓reduceIte,reduceCtorEq,rq,lM,f0,f4,f5,f6,hlt,hg,hc6,ht6]
   refine call hT Qcv (k_Add hT F d (by omega) hn ha) 1000 fun v σ hv=>?_
   obtain ⟨rfl,t2,w2,w3,w4,ht2,rfl⟩:=hv
   simp -implicitDefEqProofs (disch:=omega) only [go_sem,↓reduceIte,reduceCtorEq,rq,rL,lM,f6,kG_5,kGs_5,hO]
   refine ⟨l.length - (i+1),_,_,by omega,Shift.refl _ _ _ _,i+1,t2+1,w2,w3,w4,t2,(addN L d).2,O++[(addN L d).1],hlt,rfl,?_,?_,by simp [hO],by omega,?_⟩
   ·rw [List.take_add_one,hd,Option.toList_some,QgD,List.foldl_append,hLe]; rfl
   ·rw [List.take_add_one,hd,Option.toList_some,QpZ,hOe,hLe]
   ·have hw:IntKind.i64.wrap ((i:Int)+1)=((i+1:Nat):Int):=by
     rw [wrap_i64 (by omega) (by omega)]; rfl
    simp -implicitDefEqProofs (disch:=omega) only [go_sem,↓reduceIte,reduceCtorEq,rq,f0,f4,hw,List.map_append]
    try exact ⟨rfl,rfl⟩
    try rfl
  ·simp -implicitDefEqProofs (disch:=omega) only [go_sem,↓reduceIte,rq,lM,f0,f4,f5,f6,show ¬ i<l.length from by omega]
   have hil:i=l.length:=by omega
   subst hil
   rw [List.take_length] at hLe hOe
   exact ⟨t',v2',v3',v4',r',ht',rfl,rfl,by rw [hLe,hOe]; rfl⟩
 ·obtain ⟨rfl,f4,t',v2',v3',v4',r',ht',f5,rfl⟩:=hE
  refine Qs 1000 ?_
  simp -implicitDefEqProofs (disch:=omega) only [go_sem,↓reduceIte,rA,rq,f4,f5,Qf1]
  exact ⟨v0,v1,v2',v3',v4',_,_,ht',rfl,rfl,by simp [kG]⟩
theorem Qts (hT:Qe P tab) (F:Fmt P G) (l:List Nd) (tight:Bool) (hl:∀ d∈l,i64 d.n∧i64 d.a) (hll:l.length≤1000) :
 C P G 0 ZG [.lst 6 (l.map fun d=>.agg d.cells) tight] ⟨t,[]⟩ fun v σ=>∃ v0 v1 v2 v3 v4 t',t≤t'∧v=.tup [.ptr 1 v0 0,.lst 1 (Qb (Qhz l)) false]∧σ=⟨t',kG F.fmt v0 v1 v2 v3 v4 (QgD l)⟩:=by
 refine Qh 5 (zL _) (Qaq (QDW hT F l tight hl hll) fun v σ hq=>?_)
 obtain ⟨v0,v1,v2,v3,v4,t',r,ht,rfl,rfl⟩:=hq
 refine .inr ⟨5,r,37,Qb (Qhz l),zL _,rfl,QB _,?_,v0,v1,v2,v3,v4,t',ht,?_,?_⟩
 ·simp [QH,kG]
 ·have:=QsV (k:=5) (w:=r) (Qhz l)
  rw [Qsw] at this
  simp only [Zt,QmW] at this ⊢
  rw [this,if_neg (fun h=>absurd h.1 (by decide))]
 ·rw [kGs_5,kfrz]
  rfl
end
end Go.Proofs.YtoeicjlflmmmcaaGreatDoor
namespace Go.Proofs.YtoeicjlflmmmcaaGreatDoor
open Go Go.Am Go.Bl
set_option maxRecDepth 100000
variable {I:Int→Int→Bool} {cap:Nat}
set_option maxHeartbeats 1000000
def Qg3 (L:List Nd):Prop:=∀ id:Int,0≤id→id<L.length→QfD L id=false
variable {s:Bs} {L:List Nd}
theorem Qhq {val:Int→Int} (cx:Ctx I L val) (hf:Qg3 L) (hs:BInv I L val cap s) {id:Int} (h0:0≤id) (h1:id<L.length):blV L s id=true:=by
 have hn:(Xj L [id]).any (QfD L)=false:=by
  rw [List.any_eq_false]
  intro x hx
  have:=Qas x hx
  rw [hf x this.1 this.2]; decide
 unfold blV
 rw [hn]
 have:=(QtE cx hs (U:=Xj L [id]) Qas QbY (fun x hx p hp=>Qbe cx.wf hx hp)).2.2 id (QfI cx.wf h0 h1)
 rw [this]; rfl
theorem QD2 (hwf:gwf L) {id:Int} (h0:0≤id) (h1:id<L.length) (hf:QfD L id=true):blV L s id=false:=by
 have hn:(Xj L [id]).any (QfD L)=true:=List.any_eq_true.2 ⟨id,QfI hwf h0 h1,hf⟩
 unfold blV
 rw [hn]; rfl
theorem QD3 (h:∀ x:Int,0≤x→x<L.length→(kL s.K x).isSome=true) (id:Int):blB L s id=s :=
 QvB fun u hu=>h u (Qas u hu).1 (Qas u hu).2
variable {a b y:Int}
theorem cg_eq (ha:QiI a) (hb:QiI b):cg a b↔a=b:=by
 unfold cg
 unfold QiI at ha hb
 constructor
 ·intro h; omega
 ·rintro rfl; rfl
variable {x:List Int}
theorem QBm {val:Int→Int} (hs:BInv I L val cap s) {y:List Int} (hx:Nb s.S.gs.length x) (hy:Nb s.S.gs.length y) (tx:Tl (mdl I s.S.gs) x a) (ty:Tl (mdl I s.S.gs) y b) (ha:QiI a) (hb:QiI b) :
 lit (Qu s.S x y).1.gs.length (Qu s.S x y).2∧lv (mdl I (Qu s.S x y).1.gs) (Qu s.S x y).2=decide (a≠b):=by
 obtain ⟨h1,h2,h3⟩:=QbA hs.k.ok hx hy tx ty
 refine ⟨h2,?_⟩
 rw [cg_eq ha hb] at h3
 by_cases e:a=b
 ·rw [h3.2 e]; simp [e]
 ·have:¬ lv (mdl I (Qu s.S x y).1.gs) (Qu s.S x y).2=false:=fun h=>e (h3.1 h)
  rw [Bool.not_eq_false] at this
  rw [this]; simp [e]
theorem Tl.pre {gs ms:List Gt} (h:gs <+: ms) (hx:Nb gs.length x) (t:Tl (mdl I gs) x a):Tl (mdl I ms) x a:=fun k hk=>by rw [Y9 h (hx.all k hk)]; exact t k hk
def trS (L:List Nd) (s:Bs) (id:Int):Bs × Int:=(⟨(Qu (blB L s id).S (kx (blB L s id).K id) (QbV 0)).1,(blB L s id).K,(blB L s id).E⟩,(Qu (blB L s id).S (kx (blB L s id).K id) (QbV 0)).2)
def unB (r:Bs) (x y:Int):Bs × Int:=(⟨(Qu r.S (kx r.K x) (kx r.K y)).1,r.K,r.E⟩,(Qu r.S (kx r.K x) (kx r.K y)).2)
def dfS (L:List Nd) (s:Bs) (x y:Int):Bs × Int:=unB (blB L (blB L s x) y) x y
theorem tr_ok {val:Int→Int} (cx:Ctx I L val) (hf:Qg3 L) (hs:BInv I L val cap s) (hc:cap+448≤1000000) {id:Int} (h0:0≤id) (h1:id<L.length) :
 BInv I L val (cap+448) (trS L s id).1∧BUp s (trS L s id).1∧lit (trS L s id).1.S.gs.length (trS L s id).2∧lv (mdl I (trS L s id).1.S.gs) (trS L s id).2=decide (val id≠0):=by
 obtain ⟨i1,u1⟩:=QeP cx hs id
 obtain ⟨-,k2,k3⟩:=i1.k.get (Qgb (Qhq cx hf hs h0 h1))
 obtain ⟨i2,g2⟩:=QBn i1 k2 (Qgt i1.k.ok.wf 0) hc
 obtain ⟨l1,l2⟩:=QBm i1 k2 (Qgt i1.k.ok.wf 0) k3 (Qke i1.k.ok.wf 0) (cx.v64 id) (by unfold QiI; omega)
 exact ⟨i2,u1.trans ⟨fun _ _ h=>h,g2.pre,g2.cpre⟩,l1,l2⟩
theorem df_ok {val:Int→Int} (cx:Ctx I L val) (hf:Qg3 L) (hs:BInv I L val cap s) (hc:cap+448≤1000000) {x:Int} (x0:0≤x) (x1:x<L.length) (y0:0≤y) (y1:y<L.length) :
 BInv I L val (cap+448) (dfS L s x y).1∧BUp s (dfS L s x y).1∧lit (dfS L s x y).1.S.gs.length (dfS L s x y).2∧lv (mdl I (dfS L s x y).1.S.gs) (dfS L s x y).2=decide (val x≠val y):=by
 obtain ⟨i1,u1⟩:=QeP cx hs x
 obtain ⟨i2,u2⟩:=QeP cx i1 y
 obtain ⟨-,k2,k3⟩:=i2.k.get (u2.some (Qgb (Qhq cx hf hs x0 x1)))
 obtain ⟨-,m2,m3⟩:=i2.k.get (Qgb (Qhq cx hf i1 y0 y1))
 obtain ⟨i3,g3⟩:=QBn i2 k2 m2 hc
 obtain ⟨l1,l2⟩:=QBm i2 k2 m2 k3 m3 (cx.v64 x) (cx.v64 y)
 exact ⟨i3,(u1.trans u2).trans ⟨fun _ _ h=>h,g3.pre,g3.cpre⟩,l1,l2⟩
theorem bi_ok {val:Int→Int} (cx:Ctx I L val) (hf:Qg3 L) (hs:BInv I L val cap s) {id:Int} (h0:0≤id) (h1:id<L.length) :
 BInv I L val cap (blB L s id)∧BUp s (blB L s id)∧(kL (blB L s id).K id).isSome=true∧Nb (blB L s id).S.gs.length (kx (blB L s id).K id)∧Tl (mdl I (blB L s id).S.gs) (kx (blB L s id).K id) (val id):=by
 obtain ⟨i1,u1⟩:=QeP cx hs id
 have hk:=Qgb (Qhq cx hf hs h0 h1)
 obtain ⟨-,k2,k3⟩:=i1.k.get hk
 exact ⟨i1,u1,hk,k2,k3⟩
theorem BUp.lv {s':Bs} (u:BUp s s') {l:Int} (hl:lit s.S.gs.length l):lit s'.S.gs.length l∧lv (mdl I s'.S.gs) l=lv (mdl I s.S.gs) l:=⟨Zb u.g hl,Y9 u.g hl⟩
def bT' (g:Gr) (B:Bv) (s:Bs) (e:Nat):List (Option Ob):=bH g B s.S s.K ⟨e,s.E⟩
variable {P:Program} {G:Nat→Option V} {B:Bv} {t e:Nat} {g:Gr}
theorem Qr6 (hT:Qe P tab) (SO:Xb P) {val:Int→Int} (cx:Ctx I g.L val) (hf:Qg3 g.L) (hs:BInv I g.L val cap s) (hLl:g.L.length≤1000000) {id:Int} (h0:0≤id) (h1:id<g.L.length) :
 C P G 5 Xg [.ptr 7 g.b 0,.int .i64 id] ⟨t,bT' g B s e⟩ fun v σ=>v=.tup [.lst 1 (Qb (kx (blB g.L s id).K id)) false,.bool true]∧∃ t' B' e',t≤t'∧σ=⟨t',bT' g B' (blB g.L s id) e'⟩ :=
 k_Bits hT SO cx hs hLl (Qhq cx hf hs h0 h1)
theorem Qr3 (hT:Qe P tab) (SO:Xb P) {val:Int→Int} (cx:Ctx I g.L val) (hf:Qg3 g.L) (hs:BInv I g.L val cap s) (hLl:g.L.length≤1000000) {id:Int} (h0:0≤id) (h1:id<g.L.length) :
 C P G 5 Xy [.ptr 7 g.b 0,.int .i64 id] ⟨t,bT' g B s e⟩ fun v σ=>v=.tup [.int .i64 (trS g.L s id).2,.bool true]∧∃ t' B' e',t≤t'∧σ=⟨t',bT' g B' (trS g.L s id).1 e'⟩ :=
 QDn hT SO cx hs hLl (Qhq cx hf hs h0 h1)
theorem QoU (hT:Qe P tab) (SO:Xb P) {val:Int→Int} (cx:Ctx I g.L val) (hf:Qg3 g.L) (hs:BInv I g.L val cap s) (hLl:g.L.length≤1000000) {x:Int} (x0:0≤x) (x1:x<g.L.length) (y0:0≤y) (y1:y<g.L.length) :
 C P G 5 Xn [.ptr 7 g.b 0,.int .i64 x,.int .i64 y] ⟨t,bT' g B s e⟩ fun v σ=>v=.tup [.int .i64 (dfS g.L s x y).2,.bool true]∧∃ t' B' e',t≤t'∧σ=⟨t',bT' g B' (dfS g.L s x y).1 e'⟩ :=
 (QuU hT SO cx hs hLl (Qhq cx hf hs x0 x1) (Qhq cx hf (QeP cx hs x).1 y0 y1)).conseq fun v σ ⟨r,hr,hv,hσ⟩=>by subst hr; exact ⟨hv,hσ⟩
end Go.Proofs.YtoeicjlflmmmcaaGreatDoor
namespace Go.Proofs.YtoeicjlflmmmcaaGreatDoor
open Go Go.Am Go.Bl
set_option maxRecDepth 100000
variable {P:Program} {G:Nat→Option V}
set_option maxHeartbeats 1000000
section
attribute [local go_sem] lC zA Xq Qo QCX QR QCc QCb QCa QB9
theorem QBA:∀ M:List Bool,Qc (nbs M)=true
 | []=>rfl
 | b::M=>by
   have:nbs (b::M)=.bool b::nbs M:=rfl
   rw [this]
   simp only [Qc,Qd,QBA M,Bool.and_true]
theorem QDy {k w:Nat} (M:List Bool):Zt k w (nbs M) (.sl k w 0 1 M.length none)=.lst 1 (nbs M) false:=by
 have:=QsU (k:=k) (w:=w) (sz:=1) (cs:=nbs M) (fun u hu=>by
  obtain ⟨a,_,rfl⟩:=List.mem_map.1 hu
  rfl)
 rwa [Ym] at this
variable {t:Nat}
theorem Qpe (hT:Qe P tab) (SO:Xb P) {g:Gr} {B:Bv} {S:St} {K:List (Int × List Int)} {E:Ev} (hL:g.L.length≤1000000) (hok:okN g.L) (Sy:List Int) (hS:∀ x∈Sy,i64 x) (tS:Bool) (C':List Cl) (hC:C'.length≤1000000) (hCn:∀ c∈C',i64 c.n) (tC:Bool) (hw:Wf S.gs) (hgl:S.gs.length≤9000000) :
 C P G 5 Yg [.ptr 7 g.b 0,QhC Sy tS 4 C' tC] ⟨t,bH g B S K E⟩ fun v σ=>v=.lst 1 (nbs (mdl (QbU Sy C' g.L) S.gs)) false∧∃ t',t≤t'∧σ=⟨t',bH g B S K E⟩:=by
 refine Qh 12 (by decide) (Qaq (QDo hT SO hL hok Sy hS tS C' hC hCn tC hw hgl) fun v σ hq=>?_)
 obtain ⟨u,t',o1,ht,rfl,rfl⟩:=hq
 refine .inr ⟨13,u,4,nbs (mdl (QbU Sy C' g.L) S.gs),by decide,rfl,QBA _,?_,?_,t',ht,?_⟩
 ·simp only [QH,List.length_set,QA]; omega
 ·have:=QDy (k:=13) (w:=u) (mdl (QbU Sy C' g.L) S.gs)
  rwa [Qa6] at this
 ·show H.mk _ (List.take 12 (QT _ 5 ((bH g B S K E++_).set 13 none)))=_
  rw [Qh3 (by decide) rfl]
theorem QuW (hT:Qe P tab) {o:List (Option Ob)} {c:List Int} {tg:Bool} (hc:c≠[]) (hl:c.length≤1000000) :
 C P G o.length X2 [.lst 1 (Qb c) tg] ⟨t,o⟩ fun v σ=>v=.lst 1 (Qb c) false∧∃ t',t≤t'∧σ=⟨t',o⟩:=by
 have h0:C P G o.length X2 [.lst 1 (Qb c) tg] ⟨t,o⟩ fun v σ=>v=.sl o.length t 0 1 c.length none∧σ=⟨t+1,o++[some (.arr t 3 (Qb c))]⟩:=by
  refine Qq hT X0 (by simp [QR]) (Qn 1000 ?_)
  obtain ⟨a,l,rfl⟩:∃ a l,c=a::l:=by
   cases c with
   | nil=>exact absurd rfl hc
   | cons a l=>exact ⟨a,l,rfl⟩
  have hn:Qb (a::l)=V.int .i64 a::Qb l:=rfl
  rw [lC] at hl
  simp -implicitDefEqProofs (disch:=omega) only [go_sem,↓reduceIte,reduceCtorEq,rq,rL,hn]
 refine Qh o.length (lR _) (Qaq h0 fun v σ hq=>?_)
 obtain ⟨rfl,rfl⟩:=hq
 refine .inr ⟨o.length,t,3,Qb c,lR _,by simp,QB _,?_,QsV c,t+1,by omega,?_⟩
 ·simp [QH]
 ·congr 1
  refine List.ext_getElem? fun m=>?_
  rw [List.getElem?_take]
  split
  ·rename_i hm
   rw [Y8,if_pos hm,List.getElem?_set,if_neg (by omega),List.getElem?_append_left hm]
  ·rename_i hm
   rw [List.getElem?_eq_none (by omega)]
end
section
attribute [local go_sem] nFq lR zA zL beq_self_eq_true XG zq3_0 zq3_1 zq3_2 zq3_3 zq3_4 zq3_5 zq3_6 zq3_7
def wL:List Nd:=[⟨2,0,0,0,0,0⟩,⟨1,5,0,0,0,0⟩,⟨1,1,0,0,0,0⟩,⟨4,0,0,1,0,2⟩]
theorem wL_i:∀ d∈wL,i64 d.n∧i64 d.a:=by
 intro d hd
 simp only [wL,List.mem_cons,List.not_mem_nil,or_false] at hd
 rcases hd with rfl | rfl | rfl | rfl <;> exact ⟨⟨by decide,by decide⟩,⟨by decide,by decide⟩⟩
theorem QrP:QgD wL=wL:=by decide
theorem wL_ids:Qhz wL=[0,1,2,3]:=by decide
theorem wL_ok:okN wL:=QrP▸QoY wL wL_i
theorem Qjt:Qg3 wL:=fun id h0 h1=>by
 have h1:id<4:=h1
 rcases (show id=0∨id=1∨id=2∨id=3 by omega) with rfl | rfl | rfl | rfl <;> rfl
theorem w_S:∀ x∈[(4:Int)],i64 x:=by
 intro x hx
 simp at hx
 subst hx
 exact ⟨by decide,by decide⟩
theorem w_C:∀ c∈([]:List Cl),i64 c.n:=by simp
theorem QpJ:Ctx (QbU [4] [] wL) wL (val [4] [] wL):=QkJ wL_ok w_S w_C
theorem Qtq (hT:Qe P tab) (F:Fmt P G) (SO:Xb P):Pure P G Z8 [] fun v=>v=.bool true:=by
 intro t
 have i0:BInv (QbU [4] [] wL) wL (val [4] [] wL) 400000 b0:=inv0 (by decide) (by decide)
 have hM:=Qts (P:=P) hT F (t:=t) wL true wL_i (by decide)
 rw [QrP,wL_ids] at hM
 refine Qh 0 (zL _) (Qq hT Xk (by simp [XG]) (Qn 1000 ?_))
 simp -implicitDefEqProofs (disch:=omega) only [go_sem,↓reduceIte,reduceCtorEq,rA,rq,rL]
 refine call hT ZD hM 1000 fun v σ hv=>?_
 obtain ⟨v0,v1,v2,v3,v4,t1,ht1,rfl,rfl⟩:=hv
 simp -implicitDefEqProofs (disch:=omega) only [go_sem,↓reduceIte,reduceCtorEq,rA,rq,rT]
 refine call hT QeS (YS (by decide) (by simp [kG]) (k_New hT)) 1000 fun v σ hv=>?_
 obtain ⟨m,k,b,n,t2,B2,e2,ht2,rfl,rfl⟩:=hv
 simp -implicitDefEqProofs (disch:=omega) only [go_sem,↓reduceIte,reduceCtorEq,rA,rq,rT,Int.reduceToNat,Int.reduceLE,Qb,List.map_cons,List.map_nil]
 have hT1:=Qr3 (P:=P) (G:=G) (g:=⟨F.fmt,v0,v1,v2,v3,v4,m,k,b,n,wL⟩) (t:=t2) (B:=B2) (e:=e2) (id:=1) hT SO QpJ Qjt i0 (show 4≤1000000 by decide) (by decide) (show (1:Int)<4 by decide)
 obtain ⟨i1,u1,l1,w1⟩:=tr_ok QpJ Qjt i0 (by decide) (id:=1) (by decide) (by decide)
 refine call hT Xu (YS (by decide) (by rw [QK]; decide) hT1) 1000 fun v σ hv=>?_
 clear hT1
 obtain ⟨rfl,t3,B3,e3,ht3,rfl⟩:=hv
 generalize trS wL b0 1=r1 at *
 simp -implicitDefEqProofs (disch:=omega) only [go_sem,↓reduceIte,reduceCtorEq,rA,rq,rT,Int.reduceToNat,Int.reduceLE]
 have hT2:=QoU (P:=P) (G:=G) (g:=⟨F.fmt,v0,v1,v2,v3,v4,m,k,b,n,wL⟩) (t:=t3) (B:=B3) (e:=e3) (x:=0) (y:=0) hT SO QpJ Qjt i1 (show 4≤1000000 by decide) (by decide) (show (0:Int)<4 by decide) (by decide) (show (0:Int)<4 by decide)
 obtain ⟨i2,u2,l2,w2⟩:=df_ok QpJ Qjt i1 (by decide) (x:=0) (y:=0) (by decide) (by decide) (by decide) (by decide)
 refine call hT Xm (YS (by decide) (by unfold bT'; rw [QK]; decide) hT2) 1000 fun v σ hv=>?_
 clear hT2
 obtain ⟨rfl,t4,B4,e4,ht4,rfl⟩:=hv
 generalize dfS wL r1.1 0 0=r2 at *
 simp -implicitDefEqProofs (disch:=omega) only [go_sem,↓reduceIte,reduceCtorEq,rA,rq,rT,Int.reduceToNat,Int.reduceLE]
 have hT3:=Qr6 (P:=P) (G:=G) (g:=⟨F.fmt,v0,v1,v2,v3,v4,m,k,b,n,wL⟩) (t:=t4) (B:=B4) (e:=e4) (id:=3) hT SO QpJ Qjt i2 (show 4≤1000000 by decide) (by decide) (show (3:Int)<4 by decide)
 obtain ⟨i3,u3,k3,l3,w3⟩:=bi_ok QpJ Qjt i2 (id:=3) (by decide) (by decide)
 refine call hT Xe (YS (by decide) (by unfold bT'; rw [QK]; decide) hT3) 1000 fun v σ hv=>?_
 clear hT3
 obtain ⟨rfl,t5,B5,e5,ht5,rfl⟩:=hv
 generalize blB wL r2.1 3=r3 at *
 simp -implicitDefEqProofs (disch:=omega) only [go_sem,↓reduceIte,reduceCtorEq,rA,rq,rL,rT]
 have hgl:r3.S.gs.length≤9000000:=by have:=i3.g; have:=i3.hc; omega
 have hMo:=Qpe (P:=P) (G:=G) (g:=⟨F.fmt,v0,v1,v2,v3,v4,m,k,b,n,wL⟩) (t:=t5) (B:=B5) (S:=r3.S) (K:=r3.K) (E:=⟨e5,r3.E⟩) hT SO (show 4≤1000000 by decide) wL_ok [4] w_S true [] (by decide) w_C false i3.k.ok.wf hgl
 refine call hT Yd (YS (by decide) (by unfold bT'; rw [QK]; decide) (QB7 (.cons _ _ _ _ (.refl _) (.cons _ _ _ _ (.agg _ _ (.cons _ _ _ _ (.refl _) (.cons _ _ _ _ (.lst 0 4 [] [] true .nil (.inl rfl)) .nil))) .nil)) hMo)) 1000 fun v σ hv=>?_
 clear hMo
 obtain ⟨rfl,t6,ht6,rfl⟩:=hv
 have hml:(mdl (QbU [4] [] wL) r3.S.gs).length=r3.S.gs.length:=Qa6 _
 obtain ⟨l1',w1'⟩:=(u2.trans u3).lv (I:=QbU [4] [] wL) l1
 obtain ⟨l2',w2'⟩:=u3.lv (I:=QbU [4] [] wL) l2
 rw [w1,show decide (val [4] [] wL 1≠0)=true from by decide] at w1'
 rw [w2,show decide (val [4] [] wL 0≠val [4] [] wL 0)=false from by decide] at w2'
 rw [show val [4] [] wL 3=5 from by decide] at w3
 rw [← hml] at l1' l2' l3 hgl
 have h1:=QdE (P:=P) (G:=G) hT l1' hgl
 have h2:=QdE (P:=P) (G:=G) hT l2' hgl
 have h3:=Qpz (P:=P) (G:=G) hT l3 hgl w3 (by unfold QiI; omega)
 rw [w1'] at h1
 rw [w2'] at h2
 have nM:Qd (.lst 1 (nbs (mdl (QbU [4] [] wL) r3.S.gs)) false)=true:=by simp [Qd]
 simp -implicitDefEqProofs (disch:=omega) only [go_sem,↓reduceIte,reduceCtorEq,rA,rq]
 refine QY hT QU h1 (by simp [Qc,Qd]) 1000 ?_
 simp -implicitDefEqProofs (disch:=omega) only [go_sem,↓reduceIte,reduceCtorEq,rA,rq]
 refine QY hT QU h2 (by simp [Qc,Qd]) 1000 ?_
 simp -implicitDefEqProofs (disch:=omega) only [go_sem,↓reduceIte,reduceCtorEq,rA,rq]
 refine QY hT YB h3 (by simp [Qc,Qd]) 1000 ?_
 simp -implicitDefEqProofs (disch:=omega) only [go_sem,↓reduceIte,reduceCtorEq,rA,rq]
end
end Go.Proofs.YtoeicjlflmmmcaaGreatDoor
namespace Go.Proofs.YtoeicjlflmmmcaaGreatDoor
open Go Go.Am
set_option maxRecDepth 100000
variable {P:Program} {G:Nat→Option V}
set_option maxHeartbeats 1000000
theorem C_grow {f base t n T:Nat} {o:List (Option Ob)}
 (hs:∀ (a:Option Addr) (w:World),Calls P f #[.slice a 0 0,.int .i64 n] w fun e w'=>∃ (cells:Array Value) (d:Nat),e=.returned (.slice (some ⟨w.heap.size,0,none⟩) 0 cells.size)∧w'={ w with heap:=w.heap.push (.cells cells T (0,0)),drawn:=d }) :
 C P G base f [.lst 0 [] true,.int .i64 n] ⟨t,o⟩ fun r σ'=>r=.sl o.length t 0 1 0 none∧σ'=⟨t+1,o++[some (.arr t T [])]⟩:=by
 intro I ρ w xs hR hb hc
 have hx1:xs.size=2:=hc.1.symm
 obtain ⟨x,y,rfl⟩:∃ x y,xs=#[x,y]:=⟨xs[0],xs[1],by
  apply Array.ext
  ·simp [hx1]
  ·intro j h1 h2
   have:j=0∨j=1:=by omega
   rcases this with rfl | rfl <;> rfl⟩
 have hv:=hc.2 0 _ x rfl rfl
 have hy:y=.int .i64 n:=by
  have:=hc.2 1 _ y rfl rfl
  cases this; rfl
 subst hy
 have hsome:∃ a,x=.slice a 0 0:=by
  generalize hu:V.lst 0 [] true=u at hv
  cases hv with
  | lst _ _ l _ _ _ _ _ h0=>injection hu with _ h _; exact absurd h.symm h0
  | lstN _ _ _ a cap h=>injection hu with _ _ h'; exact ⟨a,by rw [h h'.symm]⟩
  | _=>cases hu
 obtain ⟨a,rfl⟩:=hsome
 refine (hs a w).mono fun e w' ⟨cells,d,h1,h2⟩=>?_
 obtain ⟨hR',hS⟩:=hR.new (base:=base) hb (T:=T) (cs:=[]) (c:=cells) (d:=d) (fun j v h=>by simp at h) (zL _) cells.size (zL _) (lR _) (0,0) (.inl rfl)
 refine ⟨_,_,I,_,_,h1,?_,h2▸hR',h2▸hS,by have hb':base≤o.length:=hb; simp []; omega,rfl,rfl⟩
 exact VR.sl _ o.length t 0 1 0 none w.heap.size 0 cells.size cells.size (Names.add_self _ _ _ _) (zL _) (fun m h=>by cases h) (fun _=>by omega)
end Go.Proofs.YtoeicjlflmmmcaaGreatDoor
