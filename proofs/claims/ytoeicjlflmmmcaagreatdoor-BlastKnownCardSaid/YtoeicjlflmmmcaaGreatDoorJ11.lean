/- Contracts: the environment of a model. -/
import Derived.Test.YtoeicjlflmmmcaaGreatDoorJ10
import Derived.Test.YtoeicjlflmmmcaaGreatDoorAmD
open Nat renaming reduceEqDiff → rq, reduceAdd → rA, reduceLeDiff → rL, reduceLT → rT, zero_add → zA, le_refl → lR, zero_le → zL, add_zero → aZ
open List renaming length_cons → lC, length_nil → lN, take_succ_cons → tSq, length_append → lA, nil_append → nA, cons_append → cA, append_assoc → aA, take_nil → tN, take_zero → tZ, length_map → lM
open Bool renaming not_false → nFq, not_true → nT
namespace Go.Proofs.YtoeicjlflmmmcaaGreatDoor
open Go Go.Am Go.Bl
set_option maxRecDepth 100000
variable {P:Program} {G:Nat→Option V} {cap:Nat}
set_option maxHeartbeats 1000000
section
variable {g:Gr} {B:Bv} {S:St} {K:List (Int × List Int)} {E:Ev} {x0 x1 x2 x3 x4 x5 x6 x7 y:Option Ob} {ex:List (Option Ob)}
theorem x17:(bH g B S K E++x0::x1::x2::x3::x4::x5::ex)[17]?=some x5:=rfl
theorem x18:(bH g B S K E++x0::x1::x2::x3::x4::x5::x6::ex)[18]?=some x6:=rfl
theorem x19:(bH g B S K E++x0::x1::x2::x3::x4::x5::x6::x7::ex)[19]?=some x7:=rfl
theorem y17:(bH g B S K E++x0::x1::x2::x3::x4::x5::ex).set 17 y=bH g B S K E++x0::x1::x2::x3::x4::y::ex:=rfl
theorem y18:(bH g B S K E++x0::x1::x2::x3::x4::x5::x6::ex).set 18 y=bH g B S K E++x0::x1::x2::x3::x4::x5::y::ex:=rfl
theorem y19:(bH g B S K E++x0::x1::x2::x3::x4::x5::x6::x7::ex).set 19 y=bH g B S K E++x0::x1::x2::x3::x4::x5::x6::y::ex:=rfl
end
section
attribute [local go_sem] nFq nT aZ lR Nat.mul_one zA beq_self_eq_true Zb zqf_0 zqf_1 QBJ Qsk Qsj Qsi Qsh Qsg Qsf Qse Qsd Qsc zqf_2 Qsb Qsa QBI zqf_3 zqf_4 zqf_5 QJx QJw QJv zqf_9 bne_self_eq_false decide_false decide_true Q3
theorem Qnh (K:List (Int × List Int)):(kEn K).length=K.length:=by simp [kEn]
def clR (c:Cl):List V:=[.int .i64 c.arr,.int .i64 c.ver,.int .i64 c.at',.int .i64 c.n]
def QnL (C:List Cl):List V:=(C.map clR).flatten
theorem QtA (C:List Cl):(QnL C).length=C.length * 4:=by
 induction C with
 | nil=>rfl
 | cons c C ih=>show ((clR c++QnL C)).length=_; rw [lA,ih]; simp [clR]; omega
theorem QAJ (C:List Cl) (c:Cl):QnL (C++[c])=QnL C++clR c:=by simp [QnL]
variable {n i t0 vb vm ve vs vc j t w k:Nat}
theorem QwS {seen:List Nat} (hn:seen.Nodup) (h:∀ i∈seen,i<n):seen.length≤n:=by
 have:=List.Nodup.length_le_of_subset hn (l₂:=List.range n) fun i hi=>List.mem_range.2 (h i hi)
 simpa using this
def kId (K:List (Int × List Int)) (i:Nat):Int:=(K.getD i (0,[])).1
theorem QLw {K:List (Int × List Int)} (h:i<K.length):(kEn K).getD i (V.any,V.any)=(.int .i64 (kId K i),.agg (Qb (K.getD i (0,[])).2)):=by
 rw [List.getD_eq_getElem?_getD,kEn,List.getElem?_map,List.getElem?_eq_getElem h]
 simp [kId,List.getD_eq_getElem?_getD,List.getElem?_eq_getElem h,Qb]
def itJ (g:Gr) (B:Bv) (S:St) (K:List (Int × List Int)) (E:Ev) (t0:Nat) (M:List Bool) (vb vm ve vs vc ti:Nat) (m:Nat) (fr:Fr) (σ:H):Prop :=
 ∃ t w seen out,t0≤t∧seen.Nodup∧(∀ i∈seen,i<K.length)∧m=K.length - seen.length∧out=seen.map (kId K)∧Qd fr 2=.ptr 12 vb 0∧Qd fr 3=.ptr 13 vm 0∧Qd fr 4=.ptr 14 ve 0∧Qd fr 5=.fn (.func Qq) [] [.ptr 12 vb 0,.ptr 13 vm 0]∧Qd fr 6=.sl 17 w 0 1 out.length none∧Qd fr 36=.ptr 18 ti 0∧σ=⟨t,bH g B S K E++[some (.arr vb 33 [.ptr 7 g.b 0]),some (.arr vm 49 [.lst 1 (nbs M) false]),some (.arr ve 26 [.sl 15 vs 0 1 0 none,.sl 16 vc 0 4 0 none]),some (.arr vs 2 []),some (.arr vc 63 []),some (.arr w 37 (Qb out)),some (.it ti 6 g.k K.length seen)]⟩
def itE (g:Gr) (B:Bv) (S:St) (K:List (Int × List Int)) (E:Ev) (t0:Nat) (M:List Bool) (vb vm ve vs vc:Nat) (e:AE) (fr:Fr) (σ:H):Prop :=
 ∃ t w out o18,t0≤t∧e=.ex 0∧(∀ x,x∈out↔∃ i,i<K.length∧x=kId K i)∧out.length≤K.length∧Qd fr 2=.ptr 12 vb 0∧Qd fr 3=.ptr 13 vm 0∧Qd fr 4=.ptr 14 ve 0∧Qd fr 5=.fn (.func Qq) [] [.ptr 12 vb 0,.ptr 13 vm 0]∧Qd fr 6=.sl 17 w 0 1 out.length none∧σ=⟨t,bH g B S K E++[some (.arr vb 33 [.ptr 7 g.b 0]),some (.arr vm 49 [.lst 1 (nbs M) false]),some (.arr ve 26 [.sl 15 vs 0 1 0 none,.sl 16 vc 0 4 0 none]),some (.arr vs 2 []),some (.arr vc 63 []),some (.arr w 37 (Qb out)),o18]⟩
variable {σ:H} {fr:Fr} {M:List Bool}
theorem QAl {g:Gr} {B:Bv} {S:St} {K:List (Int × List Int)} {E:Ev} {ti:Nat} (hKl:K.length≤1000000) {m:Nat} (hJ:itJ g B S K E t0 M vb vm ve vs vc ti m fr σ) :
 W P G 106 5 (zg QJx [37] (.seq (zw 38 .skip (.exit 0)) (.block 1 (zg QJw [39,40] (.reg QJv [41,42,43,44]))))) fr σ (Qbb (fun fr σ=>∃ m' fr' σ',m'<m∧Shift G 106 5 fr σ fr' σ'∧itJ g B S K E t0 M vb vm ve vs vc ti m' fr' σ') (itE g B S K E t0 M vb vm ve vs vc)):=by
 obtain ⟨t,w,seen,out,ht,hn,hlt,rfl,ho,f2,f3,f4,f5,f6,f36,rfl⟩:=hJ
 have hsl:=QwS hn hlt
 have hol:out.length=seen.length:=by rw [ho,lM]
 refine Qh [(2,.ptr 12 vb 0),(3,.ptr 13 vm 0),(4,.ptr 14 ve 0),(5,.fn (.func Qq) [] [.ptr 12 vb 0,.ptr 13 vm 0]),(6,.sl 17 w 0 1 out.length none),(36,.ptr 18 ti 0)] ⟨f2,f3,f4,f5,f6,f36,trivial⟩  12 ?_
 simp -implicitDefEqProofs (disch:=omega) only [go_sem,↓reduceIte]
 simp only [evW]
 simp -implicitDefEqProofs (disch:=omega) only [go_sem,↓reduceIte,rA,rq,rL,rT,b_6,x18,y18,Qnh,lC,lN,and_true]
 refine ⟨fun hall=>?_,fun i hi hni=>?_⟩
 ·refine ⟨t,w,out,_,ht,rfl,fun x=>?_,by omega,rfl,rfl,rfl,rfl,rfl,rfl⟩
  rw [ho,List.mem_map]
  constructor
  ·rintro ⟨i,hi,rfl⟩; exact ⟨i,hlt i hi,rfl⟩
  ·rintro ⟨i,hi,rfl⟩; exact ⟨i,hall i hi,rfl⟩
 ·have hgl:(seen++[i]).getLast?=some i:=by simp
  have hgd:=QLw hi
  have hn2:(seen++[i]).Nodup:=by rw [List.nodup_append]; exact ⟨hn,by simp,fun a ha b hb=>by simp at hb; subst hb; exact fun e=>hni (e▸ha)⟩
  have hlt2:∀ j∈seen++[i],j<K.length:=fun j hj=>by
   simp only [List.mem_append,List.mem_singleton] at hj
   rcases hj with hj | rfl
   ·exact hlt j hj
   ·exact hi
  have hsn:seen.length<K.length:=by
   have:=QwS hn2 hlt2
   simp at this; omega
  have hap:Qb out++[V.int .i64 (kId K i)]=Qb (out++[kId K i]):=by simp [Qb]
  have hln:out.length+1=(out++[kId K i]).length:=by simp
  simp only [evW]
  simp -implicitDefEqProofs (disch:=omega) only [go_sem,↓reduceIte,rq,b_6,x18,Qnh,and_true,hgl,hgd,hi]
  have hks:(kId K i::[])=[kId K i]:=rfl
  refine Qg 100 ?_
  simp -implicitDefEqProofs (disch:=omega) only [go_sem,↓reduceIte,reduceCtorEq,rA,rq,rL,rT,x17,y17,lC,lN,cA,nA,true_and,and_true,hap,Qi]
  refine ⟨K.length - (seen.length+1),_,_,by omega,Shift.refl _ _ _ _,t+1,t,seen++[i],out++[kId K i],by omega,hn2,hlt2,by simp,by rw [ho,List.map_append]; rfl,?_⟩
  simp -implicitDefEqProofs (disch:=omega) only [go_sem,↓reduceIte,rq,hln]
def enT (L:List Nd) (tv:Int→Int) (s:List Int × List Cl) (id:Int):List Int × List Cl :=
 if (nd L id).kind=2 then ((s.1++List.replicate ((nd L id).n.toNat+1 - s.1.length) 0).set (nd L id).n.toNat (tv id),s.2) else
 if (nd L id).kind=3 then (s.1,s.2++[⟨(nd L id).a,(nd L id).n,tv (nd L id).y,tv id⟩]) else s
def enF (L:List Nd) (tv:Int→Int) (ids:List Int):List Int × List Cl:=ids.foldl (enT L tv) ([],[])
variable {ids:List Int}
theorem QAD {L:List Nd} {tv:Int→Int} {id:Int} (h:ids[j]?=some id):enF L tv (ids.take (j+1))=enT L tv (enF L tv (ids.take j)) id:=by
 unfold enF
 rw [List.take_add_one,h,List.foldl_append]; rfl
theorem QrA {L:List Nd} {tv:Int→Int} (hL:∀ id,(nd L id).kind=2→(nd L id).n≤65536):∀ (ids:List Int) (s:List Int × List Cl),s.1.length≤65537→(ids.foldl (enT L tv) s).1.length≤65537∧(ids.foldl (enT L tv) s).2.length≤s.2.length+ids.length
 | [],s,h=>⟨h,by simp⟩
 | id::ids,s,h=>by
   rw [List.foldl_cons]
   have h1:(enT L tv s id).1.length≤65537∧(enT L tv s id).2.length≤s.2.length+1:=by
    unfold enT
    split
    ·rename_i hk
     have:=hL id hk
     simp; omega
    ·split
     ·simp; exact h
     ·exact ⟨h,by omega⟩
   obtain ⟨h2,h3⟩:=QrA hL ids (enT L tv s id) h1.1
   exact ⟨h2,by simp; omega⟩
def enH (g:Gr) (B:Bv) (S:St) (K:List (Int × List Int)) (E:Ev) (M:List Bool) (ids:List Int) (vb vm ve w vs vc:Nat) (o18:Option Ob) (s:List Int) (c:List Cl) (r:List (Option Ob)):List (Option Ob) :=
 bH g B S K E++some (.arr vb 33 [.ptr 7 g.b 0])::some (.arr vm 49 [.lst 1 (nbs M) false])::some (.arr ve 26 [.sl 15 vs 0 1 s.length none,.sl 16 vc 0 4 c.length none])::some (.arr vs 2 (Qb s))::some (.arr vc 63 (QnL c))::some (.arr w 37 (Qb ids))::o18::r
def enJ (g:Gr) (B:Bv) (S:St) (K:List (Int × List Int)) (E:Ev) (t0:Nat) (M:List Bool) (ids:List Int) (vb vm ve w:Nat) (o18:Option Ob) (j:Nat) (fr:Fr) (σ:H):Prop :=
 ∃ t vs vc,t0≤t∧σ=⟨t,enH g B S K E M ids vb vm ve w vs vc o18 (enF g.L (fun id=>tlS M (kx K id) 64) (ids.take j)).1 (enF g.L (fun id=>tlS M (kx K id) 64) (ids.take j)).2 []⟩∧Qd fr 2=.ptr 12 vb 0∧Qd fr 4=.ptr 14 ve 0∧Qd fr 5=.fn (.func Qq) [] [.ptr 12 vb 0,.ptr 13 vm 0]∧Qd fr 47=.sl 17 w 0 1 ids.length none∧Qd fr 48=.int .i64 ids.length∧Qd fr 49=.int .i64 ((j:Nat):Int)
def enE (g:Gr) (B:Bv) (S:St) (K:List (Int × List Int)) (E:Ev) (t0:Nat) (M:List Bool) (ids:List Int) (vb vm ve w:Nat) (o18:Option Ob) (e:AE) (fr:Fr) (σ:H):Prop :=
 e=.ex 2∧∃ t vs vc,t0≤t∧σ=⟨t,enH g B S K E M ids vb vm ve w vs vc o18 (enF g.L (fun id=>tlS M (kx K id) 64) ids).1 (enF g.L (fun id=>tlS M (kx K id) 64) ids).2 []⟩∧Qd fr 4=.ptr 14 ve 0
variable {o18:Option Ob}
theorem Qx6 {g:Gr} {B:Bv} {S:St} {K:List (Int × List Int)} {E:Ev} {s:List Int} {c:List Cl} (r:List (Option Ob)):Shift G n 5 fr ⟨t,enH g B S K E M ids vb vm ve w vs vc o18 s c r⟩ fr ⟨t,enH g B S K E M ids vb vm ve w vs vc o18 s c []⟩ :=
 Shift.drop (Xd 19 (enH g B S K E M ids vb vm ve w vs vc o18 s c r)) (lR _) (by simp [enH])
theorem QHW {g:Gr} {B:Bv} {S:St} {K:List (Int × List Int)} {E:Ev} {x0 x1 x2 x3 x4 x5 x6:Option Ob} {r:List (Option Ob)}:List.take 19 (bH g B S K E++x0::x1::x2::x3::x4::x5::x6::r)=bH g B S K E++[x0,x1,x2,x3,x4,x5,x6]:=rfl
variable {I:Int→Int→Bool}
theorem QAC (hT:Qe P tab) {val:Int→Int} {g:Gr} {B:Bv} {S:St} {K:List (Int × List Int)} {E:Ev} (cx:Ctx I g.L val) (h:Kn I g.L val S K E.l) (hM:M.length=S.gs.length) (hgl:S.gs.length≤9000000) (hids:ids.length≤1000000) (hk:∀ id∈ids,(kL K id).isSome=true) (hL2:∀ id,(nd g.L id).kind=2→0≤(nd g.L id).n∧(nd g.L id).n≤65536) {id:Int} (hid:ids[j]?=some id) (hJ:enJ g B S K E t0 M ids vb vm ve w o18 j fr σ) :
 W P G 106 5 we fr σ (Qbb (fun fr σ=>∃ fr' σ',Shift G 106 5 fr σ fr' σ'∧enJ g B S K E t0 M ids vb vm ve w o18 (j+1) fr' σ') (enE g B S K E t0 M ids vb vm ve w o18)):=by
 obtain ⟨t,vs,vc,ht,rfl,f2,f4,f5,f47,f48,f49⟩:=hJ
 have hlt:=(List.getElem?_eq_some_iff.1 hid).1
 have hki:(j:Int)<ids.length:=by omega
 have hk0:(0:Int)≤(j:Int):=by omega
 have hw1:IntKind.i64.wrap ((j:Int)+1)=((j+1:Nat):Int):=by rw [wrap_i64 (by omega) (by omega)]; omega
 have gid:=QiF hid
 have him:=List.mem_of_getElem? hid
 obtain ⟨x,hx⟩:=Option.isSome_iff_exists.1 (hk id him)
 obtain ⟨hr,nx,-⟩:=h.kn id x hx
 rw [← hM] at nx
 have hlen:=QrA (L:=g.L) (tv:=fun id=>tlS M (kx K id) 64) (fun id h2=>(hL2 id h2).2) (ids.take j) ([],[]) (by simp)
 have hl1:(enF g.L (fun id=>tlS M (kx K id) 64) (ids.take j)).1.length≤65537:=hlen.1
 have hl2:(enF g.L (fun id=>tlS M (kx K id) 64) (ids.take j)).2.length≤1000000:=by
  have h9:(enF g.L (fun id=>tlS M (kx K id) 64) (ids.take j)).2.length≤([]:List Cl).length+(ids.take j).length:=hlen.2
  simp at h9
  omega
 unfold enJ
 rw [QAD hid]
 generalize enF g.L (fun id=>tlS M (kx K id) 64) (ids.take j)=sc at *
 obtain ⟨s,c⟩:=sc
 simp only at hl1 hl2
 have hN:=fun t ex=>QoR (P:=P) (G:=G) (g:=g) (S:=S) (K:=K) (E:=E) hT hr 5 t B ex
 have hTl:=fun (base t:Nat) (id:Int) (x:List Int) (hx:kL K id=some x) (nx:Nb M.length x) ex=>QLg (P:=P) (G:=G) (base:=base) (g:=g) (B:=B) (S:=S) (K:=K) (E:=E) (t:=t) (vb:=vb) (vm:=vm) (ex:=ex) (T:=33) (T2:=49) hT hx nx (by omega)
 have hkx:kx K id=x:=Qf3 hx
 refine Qh [(2,.ptr 12 vb 0),(4,.ptr 14 ve 0),(5,.fn (.func Qq) [] [.ptr 12 vb 0,.ptr 13 vm 0]),(47,.sl 17 w 0 1 ids.length none),(48,.int .i64 ids.length),(49,.int .i64 ((j:Nat):Int))] ⟨f2,f4,f5,f47,f48,f49,trivial⟩  1000 ?_
 unfold enH
 simp -implicitDefEqProofs (disch:=omega) only [go_sem,↓reduceIte,rA,rq,rL,b_7,x12,x17,lC,lN,true_implies,true_and,and_true,hki,hk0,hlt,Int.toNat_natCast,gid,Qi]
 refine call hT XE (hN _ _) 1000 fun v σ hv=>?_
 obtain ⟨rfl,t1,ht1,rfl⟩:=hv
 rcases (cx.kd id hr.1 hr.2).1 with k1 | k2 | k3 | k4
 ·have e:enT g.L (fun id=>tlS M (kx K id) 64) (s,c) id=(s,c):=by rw [enT,if_neg (by omega),if_neg (by omega)]
  rw [e]
  simp -implicitDefEqProofs (disch:=omega) only [go_sem,↓reduceIte,rA,rq,rL,rT,Int.reduceEq,QK,X0,x14,x19,y19,lC,lN,cA,nA,false_implies,true_implies,true_and,and_true,k1,Nd.cells,hw1]
  refine ⟨_,_,Qx6 _,t1+1,vs,vc,by omega,rfl,?_⟩
  simp -implicitDefEqProofs (disch:=omega) only [go_sem,↓reduceIte,rq]
 ·obtain ⟨n0,n1⟩:=hL2 id k2
  obtain ⟨N,hN'⟩:∃ N:Nat,N=(nd g.L id).n.toNat:=⟨_,rfl⟩
  have hNi:(nd g.L id).n=(N:Int):=by omega
  have e:enT g.L (fun id=>tlS M (kx K id) 64) (s,c) id=((s++List.replicate (N+1 - s.length) 0).set N (tlS M x 64),c):=by
   rw [enT,if_pos k2,← hN',hkx]
  rw [e]
  simp -implicitDefEqProofs (disch:=omega) only [go_sem,↓reduceIte,rA,rq,rL,rT,QK,X0,x19,y19,lC,lN,cA,nA,true_implies,and_true,k2,Nd.cells]
  refine XQ (N+1 - s.length) (fun q fr σ=>∃ t2 vs2 vn,t0≤t2∧σ=⟨t2,enH g B S K E M ids vb vm ve w vs2 vc o18 (s++List.replicate q 0) c [some (.arr vn 39 (nd g.L id).cells)]⟩∧Qd fr 2=.ptr 12 vb 0∧Qd fr 4=.ptr 14 ve 0∧Qd fr 5=.fn (.func Qq) [] [.ptr 12 vb 0,.ptr 13 vm 0]∧Qd fr 47=.sl 17 w 0 1 ids.length none∧Qd fr 48=.int .i64 ids.length∧Qd fr 49=.int .i64 ((j:Nat):Int)∧Qd fr 9=.int .i64 id∧Qd fr 10=.ptr 19 vn 0)
   (fun e fr σ=>e=.ex 5∧∃ t2 vs2 vn,t0≤t2∧σ=⟨t2,enH g B S K E M ids vb vm ve w vs2 vc o18 (s++List.replicate (N+1 - s.length) 0) c [some (.arr vn 39 (nd g.L id).cells)]⟩∧Qd fr 2=.ptr 12 vb 0∧Qd fr 4=.ptr 14 ve 0∧Qd fr 5=.fn (.func Qq) [] [.ptr 12 vb 0,.ptr 13 vm 0]∧Qd fr 47=.sl 17 w 0 1 ids.length none∧Qd fr 48=.int .i64 ids.length∧Qd fr 49=.int .i64 ((j:Nat):Int)∧Qd fr 9=.int .i64 id∧Qd fr 10=.ptr 19 vn 0) ⟨t1+1,vs,t1,by omega,?_,by simp -implicitDefEqProofs (disch:=omega) only [go_sem,↓reduceIte],by simp -implicitDefEqProofs (disch:=omega) only [go_sem,↓reduceIte,rq],by simp -implicitDefEqProofs (disch:=omega) only [go_sem,↓reduceIte,rq],by simp -implicitDefEqProofs (disch:=omega) only [go_sem,↓reduceIte,rq],by simp -implicitDefEqProofs (disch:=omega) only [go_sem,↓reduceIte,rq],by simp -implicitDefEqProofs (disch:=omega) only [go_sem,↓reduceIte,rq],by simp -implicitDefEqProofs (disch:=omega) only [go_sem,↓reduceIte,rq],by simp -implicitDefEqProofs (disch:=omega) only [go_sem,↓reduceIte,rq]⟩ (fun q hq fr σ hJ=>?_) (fun q hq fr σ hJ=>?_) (fun e fr σ hE=>?_)
  ·simp [enH,Nd.cells,k2]
  ·obtain ⟨t2,vs2,vn,ht2,rfl,f2,f4,f5,f47,f48,f49,f9,f10⟩:=hJ
   have hsl:(s++List.replicate q 0).length=s.length+q:=by simp
   have hrs:s++List.replicate (q+1) 0=(s++List.replicate q 0)++[(0:Int)]:=by rw [List.replicate_succ',aA]
   rw [hrs]
   generalize s++List.replicate q 0=s2 at *
   have hle:(s2.length:Int)≤(nd g.L id).n:=by omega
   have hap:Qb s2++[V.int .i64 0]=Qb (s2++[0]):=by simp [Qb]
   have hs1:(s2++[(0:Int)]).length=s2.length+1:=by simp
   refine Qh [(2,.ptr 12 vb 0),(4,.ptr 14 ve 0),(5,.fn (.func Qq) [] [.ptr 12 vb 0,.ptr 13 vm 0]),(47,.sl 17 w 0 1 ids.length none),(48,.int .i64 ids.length),(49,.int .i64 ((j:Nat):Int)),(9,.int .i64 id),(10,.ptr 19 vn 0)] ⟨f2,f4,f5,f47,f48,f49,f9,f10,trivial⟩  1000 ?_
   unfold enH
   simp -implicitDefEqProofs (disch:=omega) only [go_sem,↓reduceIte,reduceCtorEq,rA,rq,rL,x14,x15,x19,y14,y15,lC,lN,cA,nA,true_implies,true_and,and_true,Nd.cells,hle,hap,Qi]
   refine ⟨_,_,Shift.refl _ _ _ _,t2+1,t2,vn,by omega,?_,?_⟩
   ·simp [Qb]
   ·simp -implicitDefEqProofs (disch:=omega) only [go_sem,↓reduceIte,rq]
  ·obtain ⟨t2,vs2,vn,ht2,rfl,f2,f4,f5,f47,f48,f49,f9,f10⟩:=hJ
   have hsl:(s++List.replicate q 0).length=s.length+q:=by simp
   rw [hq] at hsl
   rw [hq]
   generalize s++List.replicate (N+1 - s.length) 0=s2 at *
   have hle:¬ (s2.length:Int)≤(nd g.L id).n:=by omega
   refine Qh [(2,.ptr 12 vb 0),(4,.ptr 14 ve 0),(5,.fn (.func Qq) [] [.ptr 12 vb 0,.ptr 13 vm 0]),(47,.sl 17 w 0 1 ids.length none),(48,.int .i64 ids.length),(49,.int .i64 ((j:Nat):Int)),(9,.int .i64 id),(10,.ptr 19 vn 0)] ⟨f2,f4,f5,f47,f48,f49,f9,f10,trivial⟩  1000 ?_
   unfold enH
   simp -implicitDefEqProofs (disch:=omega) only [go_sem,↓reduceIte,rA,rq,rL,x14,x19,lC,lN,true_implies,true_and,and_true,Nd.cells,hle]
   exact ⟨t2,vs2,vn,ht2,⟨rfl,rfl⟩,rfl⟩
  ·obtain ⟨rfl,t2,vs2,vn,ht2,rfl,f2,f4,f5,f47,f48,f49,f9,f10⟩:=hE
   have hsl:N<(s++List.replicate (N+1 - s.length) 0).length:=by simp; omega
   generalize s++List.replicate (N+1 - s.length) 0=s2 at *
   have hnl:(nd g.L id).n<(s2.length:Int):=by omega
   have hset:List.take N (Qb s2)++[V.int .i64 (tlS M x 64)]++List.drop (N+1) (Qb s2)=Qb (s2.set N (tlS M x 64)):=by
    unfold Qb
    rw [List.map_set,List.set_eq_take_append_cons_drop,if_pos (by simp; omega)]
    simp
   refine XN [(2,.ptr 12 vb 0),(4,.ptr 14 ve 0),(5,.fn (.func Qq) [] [.ptr 12 vb 0,.ptr 13 vm 0]),(47,.sl 17 w 0 1 ids.length none),(48,.int .i64 ids.length),(49,.int .i64 ((j:Nat):Int)),(9,.int .i64 id),(10,.ptr 19 vn 0)] ⟨f2,f4,f5,f47,f48,f49,f9,f10,trivial⟩ 1000 ?_
   unfold enH
   simp -implicitDefEqProofs (disch:=omega) only [go_sem,↓reduceIte,rA,rq,rL,QK,x14,x19,lC,lN,true_implies,and_true,Nd.cells,k2]
   refine QlB hT YF (hTl 20 _ id x hx nx _) 1000 fun v σ hv=>?_
   obtain ⟨rfl,rfl⟩:=hv
   have hN0:(0:Int)≤(N:Int):=by omega
   have hN1:(N:Int)<(s2.length:Int):=by omega
   have hN2:N<s2.length:=hsl
   simp -implicitDefEqProofs (disch:=omega) only [go_sem,↓reduceIte,rq,rL,x15,y15,lC,lN,true_and,and_true,hNi,hN0,hN2,Int.toNat_natCast,hset,Qi,List.length_set,hw1]
   refine ⟨_,_,Shift.drop (Xd 19 _) (lR _) (by simp [Q8]),t2,vs2,vc,ht2,?_,?_⟩
   ·rw [QHW]; try simp [enH]
   ·simp -implicitDefEqProofs (disch:=omega) only [go_sem,↓reduceIte,rq]
 ·obtain ⟨y,hy⟩:=Option.isSome_iff_exists.1 (h.cl id (hk id him) _ (QKP k3))
  obtain ⟨-,ny,-⟩:=h.kn _ y hy
  rw [← hM] at ny
  have hky:kx K (nd g.L id).y=y:=Qf3 hy
  have e:enT g.L (fun id=>tlS M (kx K id) 64) (s,c) id=(s,c++[⟨(nd g.L id).a,(nd g.L id).n,tlS M y 64,tlS M x 64⟩]):=by
   rw [enT,if_neg (by omega),if_pos k3,hkx,hky]
  rw [e]
  simp -implicitDefEqProofs (disch:=omega) only [go_sem,↓reduceIte,rA,rq,rL,rT,Int.reduceEq,QK,X0,x14,x19,y19,lC,lN,cA,nA,false_implies,true_implies,true_and,and_true,k3,Nd.cells]
  refine QlB hT YF (hTl 20 _ _ y hy ny _) 1000 fun v σ hv=>?_
  obtain ⟨rfl,rfl⟩:=hv
  simp -implicitDefEqProofs (disch:=omega) only [go_sem,↓reduceIte,rA,rq,QK,lC,lN]
  refine QlB hT YF (hTl 20 _ id x hx nx _) 1000 fun v σ hv=>?_
  obtain ⟨rfl,rfl⟩:=hv
  simp -implicitDefEqProofs (disch:=omega) only [go_sem,↓reduceIte,reduceCtorEq,rA,rq,rL,x14,x16,y14,y16,lC,lN,cA,nA,true_and,and_true,QtA,hw1]
  refine ⟨_,_,Shift.drop (Xd 19 _) (lR _) (by simp [Q8]),t1+1+1,vs,t1+1,by omega,?_,?_⟩
  ·rw [QHW]; try simp [QAJ,clR]
  ·simp -implicitDefEqProofs (disch:=omega) only [go_sem,↓reduceIte,rq]
 ·have e:enT g.L (fun id=>tlS M (kx K id) 64) (s,c) id=(s,c):=by rw [enT,if_neg (by omega),if_neg (by omega)]
  rw [e]
  simp -implicitDefEqProofs (disch:=omega) only [go_sem,↓reduceIte,rA,rq,rL,rT,Int.reduceEq,QK,X0,x14,x19,y19,lC,lN,cA,nA,false_implies,true_implies,true_and,and_true,k4,Nd.cells,hw1]
  refine ⟨_,_,Qx6 _,t1+1,vs,vc,by omega,rfl,?_⟩
  simp -implicitDefEqProofs (disch:=omega) only [go_sem,↓reduceIte,rq]
theorem QxF {K:List (Int × List Int)} (h:i<K.length):(kL K (kId K i)).isSome=true:=by
 unfold kL
 rw [Option.isSome_map,List.find?_isSome]
 refine ⟨K[i],List.getElem_mem h,?_⟩
 simp [kId,List.getD_eq_getElem?_getD,List.getElem?_eq_getElem h]
theorem Qxq {K:List (Int × List Int)} {x:Int} (h:(kL K x).isSome=true):∃ i,i<K.length∧x=kId K i:=by
 unfold kL at h
 rw [Option.isSome_map,List.find?_isSome] at h
 obtain ⟨p,hp,he⟩:=h
 obtain ⟨i,hi⟩:=List.mem_iff_getElem?.1 hp
 obtain ⟨h1,h2⟩:=List.getElem?_eq_some_iff.1 hi
 refine ⟨i,h1,?_⟩
 rw [of_decide_eq_true he,kId,List.getD_eq_getElem?_getD,hi]; rfl
theorem QLS {g:Gr} {B:Bv} {S:St} {K:List (Int × List Int)} {E:Ev} (hj:j=ids.length) (hJ:enJ g B S K E t0 M ids vb vm ve w o18 j fr σ) :
 W P G 106 5 we fr σ (Qbb (fun _ _=>False) (enE g B S K E t0 M ids vb vm ve w o18)):=by
 obtain ⟨t,vs,vc,ht,rfl,f2,f4,f5,f47,f48,f49⟩:=hJ
 rw [hj,List.take_length]
 unfold enE
 refine Qh [(2,.ptr 12 vb 0),(4,.ptr 14 ve 0),(5,.fn (.func Qq) [] [.ptr 12 vb 0,.ptr 13 vm 0]),(47,.sl 17 w 0 1 ids.length none),(48,.int .i64 ids.length),(49,.int .i64 ((j:Nat):Int))] ⟨f2,f4,f5,f47,f48,f49,trivial⟩  1000 ?_
 simp -implicitDefEqProofs (disch:=omega) only [go_sem,↓reduceIte,rq,hj,Int.lt_irrefl]
 first | exact ⟨t,vs,vc,ht,rfl⟩ | exact ⟨t,vs,vc,ht,rfl,rfl⟩ | exact ⟨t,vs,vc,ht,⟨rfl,rfl⟩,rfl⟩
theorem k_Env0 (hT:Qe P tab) (SO:Q1 P) {val:Int→Int} {g:Gr} {B:Bv} {S:St} {K:List (Int × List Int)} {E:Ev} (cx:Ctx I g.L val) (h:Kn I g.L val S K E.l) (hM:M.length=S.gs.length) (hgl:S.gs.length≤9000000) (hKl:K.length≤1000000) (hL2:∀ id,(nd g.L id).kind=2→0≤(nd g.L id).n∧(nd g.L id).n≤65536) :
 C P G 5 Yz [.ptr 7 g.b 0,.lst 1 (nbs M) false] ⟨t,bH g B S K E⟩ fun v σ=>∃ ids t' vb vm ve w vs vc o18,(∀ x,x∈ids↔(kL K x).isSome=true)∧ids.length≤1000000∧t≤t' ∧
   v=.agg [.sl 15 vs 0 1 (enF g.L (fun id=>tlS M (kx K id) 64) ids).1.length none,.sl 16 vc 0 4 (enF g.L (fun id=>tlS M (kx K id) 64) ids).2.length none]∧σ=⟨t',enH g B S K E M ids vb vm ve w vs vc o18 (enF g.L (fun id=>tlS M (kx K id) 64) ids).1 (enF g.L (fun id=>tlS M (kx K id) 64) ids).2 []⟩:=by
 refine Qo hT Qb5 (by simp [Zb]) (Qm 6 ?_)
 simp -implicitDefEqProofs (disch:=omega) only [go_sem,↓reduceIte,reduceCtorEq,rA,rq,Q8,QK,X0,lC,lN,cA,nA,and_true]
 refine QX (HShift.shift (HShift.ownAt 1 2 (k:=14) (p:=0) (by omega) rfl rfl)) (Qg 0 ?_)
 refine QX (HShift.shift (HShift.ownAt 4 63 (k:=14) (p:=1) (by omega) rfl rfl)) (Qg 1000 ?_)
 simp -implicitDefEqProofs (disch:=omega) only [go_sem,↓reduceIte,reduceCtorEq,rA,rq,rL,Int.reduceToNat,Int.reduceLE,b_6,b_7,QK,X0,x12,x13,y14,Qnh,lC,lN,cA,nA,true_implies,true_and,and_true,List.set_cons_zero,List.set_cons_succ,Yp,hM]
 simp only [evW]
 simp -implicitDefEqProofs (disch:=omega) only [go_sem,↓reduceIte,reduceCtorEq,rA,rq,b_6,QK,X0,Qnh,lC,lN,cA,nA]
 refine Zv (itJ g B S K E t M t (t+1) (t+1+1) (t+1+1+1) (t+1+1+1+1) (t+1+1+1+1+1+1)) (itE g B S K E t M t (t+1) (t+1+1) (t+1+1+1) (t+1+1+1+1)) (m0:=K.length) ⟨_,t+1+1+1+1+1,[],[],by omega,List.nodup_nil,(fun i hi=>by cases hi),by simp,rfl,by simp -implicitDefEqProofs (disch:=omega) only [go_sem,↓reduceIte,reduceCtorEq,rq],by simp -implicitDefEqProofs (disch:=omega) only [go_sem,↓reduceIte,reduceCtorEq,rq],by simp -implicitDefEqProofs (disch:=omega) only [go_sem,↓reduceIte,reduceCtorEq,rq],by simp -implicitDefEqProofs (disch:=omega) only [go_sem,↓reduceIte,reduceCtorEq,rq],by simp -implicitDefEqProofs (disch:=omega) only [go_sem,↓reduceIte,reduceCtorEq,rq],by simp -implicitDefEqProofs (disch:=omega) only [go_sem,↓reduceIte,reduceCtorEq,rq],rfl⟩ (fun m fr σ hJ=>QAl hKl hJ) (fun e fr σ hE=>?_)
 obtain ⟨t1,w,out,o18,ht1,rfl,hmem,hol,f2,f3,f4,f5,f6,rfl⟩:=hE
 have hSo:=QID (P:=P) (G:=G) SO (base:=5) (k:=17) (v:=w) (T:=37) (t:=t1) (o:=bH g B S K E++[some (.arr t 33 [.ptr 7 g.b 0]),some (.arr (t+1) 49 [.lst 1 (nbs M) false]),some (.arr (t+1+1) 26 [.sl 15 (t+1+1+1) 0 1 0 none,.sl 16 (t+1+1+1+1) 0 4 0 none]),some (.arr (t+1+1+1) 2 []),some (.arr (t+1+1+1+1) 63 []),some (.arr w 37 (Qb out)),o18]) (zs:=out) (n:=out.length) (lim:=none) (by omega) rfl rfl (by omega)
 rw [y17] at hSo
 have hids:∀ x,x∈(out.mergeSort fun x y=>decide (x≤y))↔(kL K x).isSome=true:=fun x=>by
  rw [List.mem_mergeSort,hmem]
  constructor
  ·rintro ⟨i,hi,rfl⟩; exact QxF hi
  ·intro hx; exact Qxq hx
 have hil:(out.mergeSort fun x y=>decide (x≤y)).length=out.length:=List.length_mergeSort ..
 generalize (out.mergeSort fun x y=>decide (x≤y))=ids at *
 rw [← hil] at f6 hSo
 refine XN [(2,.ptr 12 t 0),(3,.ptr 13 (t+1) 0),(4,.ptr 14 (t+1+1) 0),(5,.fn (.func Qq) [] [.ptr 12 t 0,.ptr 13 (t+1) 0]),(6,.sl 17 w 0 1 ids.length none)] ⟨f2,f3,f4,f5,f6,trivial⟩ 1000 ?_
 simp -implicitDefEqProofs (disch:=omega) only [go_sem,↓reduceIte,rq]
 refine call hT Zj hSo 1000 fun v σ hv=>?_
 obtain ⟨rfl,rfl⟩:=hv
 simp -implicitDefEqProofs (disch:=omega) only [go_sem,↓reduceIte,rq]
 refine Yn ids (enJ g B S K E t M ids t (t+1) (t+1+1) w o18) (enE g B S K E t M ids t (t+1) (t+1+1) w o18) ⟨t1,t+1+1+1,t+1+1+1+1,ht1,rfl,by simp -implicitDefEqProofs (disch:=omega) only [go_sem,↓reduceIte],by simp -implicitDefEqProofs (disch:=omega) only [go_sem,↓reduceIte,rq],by simp -implicitDefEqProofs (disch:=omega) only [go_sem,↓reduceIte,rq],by simp -implicitDefEqProofs (disch:=omega) only [go_sem,↓reduceIte,rq],by simp -implicitDefEqProofs (disch:=omega) only [go_sem,↓reduceIte,rq],by simp -implicitDefEqProofs (disch:=omega) only [go_sem,↓reduceIte,rq]; rfl⟩ (fun j id hid fr σ hJ=>QAC hT cx h hM hgl (by omega) (fun id hm=>(hids id).1 hm) hL2 hid hJ) (fun j hj fr σ hJ=>QLS hj hJ) (fun e fr σ hE=>?_)
 obtain ⟨rfl,t2,vs,vc,ht2,rfl,f4⟩:=hE
 refine Qg 1000 ?_
 unfold enH
 simp -implicitDefEqProofs (disch:=omega) only [go_sem,↓reduceIte,reduceCtorEq,rA,rq,rL,x14,y14,lC,lN,cA,nA,false_implies,and_true,f4]
 exact ⟨ids,t2,t,t+1,t+1+1,w,vs,vc,o18,hids,by omega,by omega,rfl,rfl,rfl⟩
theorem Qmz:∀ C:List Cl,Qbm 4 C.length (QnL C)=C.map Cl.v
 | []=>rfl
 | c::C=>by
   have h:QnL (c::C)=clR c++QnL C:=by simp [QnL]
   rw [h,lC,Qbm,List.map_cons,← Qmz C]
   rfl
theorem QrT:∀ C:List Cl,Qc (QnL C)=true
 | []=>rfl
 | c::C=>by
   have h:QnL (c::C)=clR c++QnL C:=by simp [QnL]
   rw [h]
   simp only [clR,cA,nA,Qc,Qf,QrT C,Bool.and_true]
theorem QLG {r:Nat} {B:List Cl}:Zw k r (QnL B) (.sl k r 0 4 B.length none)=.lst 4 (B.map Cl.v) false:=by
 have h:=QtA B
 rw [Zw,if_pos ⟨rfl,rfl⟩,if_pos ⟨by omega,by omega⟩,QjU,if_neg (by omega),List.drop_zero,Qmz]
theorem Qkx {b:Nat} {cs:List V} (hk:12≤k) {g:Gr} {B:Bv} {S:St} {K:List (Int × List Int)} {E:Ev} {o:List (Option Ob)} (h:List.take 12 o=bH g B S K E):List.take 12 (Q6 (Zw k w cs) b (o.set k none))=bH g B S K E:=by
 have e:o=bH g B S K E++o.drop 12:=by rw [← h,List.take_append_drop]
 rw [e,List.set_append_right _ _ (by rw [Q8]; exact hk)]
 exact QxV hk
theorem k_Env1 (hT:Qe P tab) (SO:Q1 P) {val:Int→Int} {g:Gr} {B:Bv} {S:St} {K:List (Int × List Int)} {E:Ev} (cx:Ctx I g.L val) (h:Kn I g.L val S K E.l) (hM:M.length=S.gs.length) (hgl:S.gs.length≤9000000) (hKl:K.length≤1000000) (hL2:∀ id,(nd g.L id).kind=2→0≤(nd g.L id).n∧(nd g.L id).n≤65536) :
 C P G 5 Yz [.ptr 7 g.b 0,.lst 1 (nbs M) false] ⟨t,bH g B S K E⟩ fun v σ=>∃ ids vc T,(∀ x,x∈ids↔(kL K x).isSome=true)∧ids.length≤1000000∧t≤σ.t ∧
   v=.agg [.lst 1 (Qb (enF g.L (fun id=>tlS M (kx K id) 64) ids).1) false,.sl 16 vc 0 4 (enF g.L (fun id=>tlS M (kx K id) 64) ids).2.length none]∧List.take 12 σ.o=bH g B S K E∧σ.o[16]?=some (some (.arr vc T (QnL (enF g.L (fun id=>tlS M (kx K id) 64) ids).2))):=by
 refine QaT (k_Env0 hT SO cx h hM hgl hKl hL2) fun v σ hq=>?_
 obtain ⟨ids,t',vb,vm,ve,w,vs,vc,o18,hids,hil,ht,rfl,rfl⟩:=hq
 refine .inr ⟨15,vs,2,Qb (enF g.L (fun id=>tlS M (kx K id) 64) ids).1,by decide,rfl,QL _,ids,vc,63,hids,hil,ht,?_,Qkx (by decide) rfl,?_⟩
 ·have:=Qug (k:=15) (w:=vs) (enF g.L (fun id=>tlS M (kx K id) 64) ids).1
  simp only [Zw,QqK] at this ⊢
  rw [this]
  simp
 ·show (Q6 _ 5 ((enH g B S K E M ids vb vm ve w vs vc o18 _ _ []).set 15 none))[16]?=_
  rw [YX,if_neg (by decide),List.getElem?_set,if_neg (by decide)]
  unfold enH
  rw [x16]
  have:=Qxc (k:=15) (v:=vs) (j:=0) (cs:=Qb (enF g.L (fun id=>tlS M (kx K id) 64) ids).1) (by omega) (.arr vc 63 (QnL (enF g.L (fun id=>tlS M (kx K id) 64) ids).2)) (Ql _ (QrT _))
  simp only [Option.map_some,this]
theorem k_Env (hT:Qe P tab) (SO:Q1 P) {val:Int→Int} {g:Gr} {B:Bv} {S:St} {K:List (Int × List Int)} {E:Ev} (cx:Ctx I g.L val) (h:Kn I g.L val S K E.l) (hM:M.length=S.gs.length) (hgl:S.gs.length≤9000000) (hKl:K.length≤1000000) (hL2:∀ id,(nd g.L id).kind=2→0≤(nd g.L id).n∧(nd g.L id).n≤65536) :
 C P G 5 Yz [.ptr 7 g.b 0,.lst 1 (nbs M) false] ⟨t,bH g B S K E⟩ fun v σ=>∃ ids,(∀ x,x∈ids↔(kL K x).isSome=true)∧ids.length≤1000000 ∧
   v=QiX (enF g.L (fun id=>tlS M (kx K id) 64) ids).1 false 4 (enF g.L (fun id=>tlS M (kx K id) 64) ids).2 false∧∃ t',t≤t'∧σ=⟨t',bH g B S K E⟩:=by
 refine Qj 12 (by decide) (QaT (k_Env1 hT SO cx h hM hgl hKl hL2) fun v σ hq=>?_)
 obtain ⟨ids,vc,T,hids,hil,ht,rfl,h12,h16⟩:=hq
 refine .inr ⟨16,vc,T,QnL (enF g.L (fun id=>tlS M (kx K id) 64) ids).2,by decide,h16,QrT _,?_,ids,hids,hil,?_,σ.t,ht,?_⟩
 ·have h17:=(List.getElem?_eq_some_iff.1 h16).1
  simp only [QW,List.length_set]; omega
 ·have:=QLG (k:=16) (r:=vc) (B:=(enF g.L (fun id=>tlS M (kx K id) 64) ids).2)
  unfold QiX
  simp only [Zw,QqK] at this ⊢
  rw [this]
 ·show H.mk σ.t (List.take 12 (Q6 _ 5 (σ.o.set 16 none)))=_
  rw [Qkx (by decide) h12]
end
end Go.Proofs.YtoeicjlflmmmcaaGreatDoor
namespace Go.Proofs.YtoeicjlflmmmcaaGreatDoor
open Go Go.Am Go.Bl
set_option maxRecDepth 100000
variable {P:Program} {G:Nat→Option V}
set_option maxHeartbeats 1000000
section
attribute [local go_sem] nFq zA Q3 Qi Qre QT Qy2 Qy1 Qy0 QyZ
theorem Qxi:∀ M:List Bool,Qc (nbs M)=true
 | []=>rfl
 | b::M=>by
   have:nbs (b::M)=.bool b::nbs M:=rfl
   rw [this]
   simp only [Qc,Qf,Qxi M,Bool.and_true]
theorem QLH {k w:Nat} (M:List Bool):Zw k w (nbs M) (.sl k w 0 1 M.length none)=.lst 1 (nbs M) false:=by
 have:=QxU (k:=k) (w:=w) (sz:=1) (cs:=nbs M) (fun u hu=>by
  obtain ⟨a,_,rfl⟩:=List.mem_map.1 hu
  rfl)
 rwa [Yp] at this
variable {t:Nat}
theorem Qth (hT:Qe P tab) (SO:Q1 P) {g:Gr} {B:Bv} {S:St} {K:List (Int × List Int)} {E:Ev} (hL:g.L.length≤1000000) (hok:okN g.L) (Sy:List Int) (hS:∀ x∈Sy,i64 x) (tS:Bool) (C':List Cl) (hC:C'.length≤1000000) (hCn:∀ c∈C',i64 c.n) (tC:Bool) (hw:Wf S.gs) (hgl:S.gs.length≤9000000) :
 C P G 5 Xf [.ptr 7 g.b 0,QiX Sy tS 4 C' tC] ⟨t,bH g B S K E⟩ fun v σ=>v=.lst 1 (nbs (mdl (Qbp Sy C' g.L) S.gs)) false∧∃ t',t≤t'∧σ=⟨t',bH g B S K E⟩:=by
 refine Qj 12 (by decide) (QaT (QxD hT SO hL hok Sy hS tS C' hC hCn tC hw hgl) fun v σ hq=>?_)
 obtain ⟨u,t',o1,ht,rfl,rfl⟩:=hq
 refine .inr ⟨13,u,4,nbs (mdl (Qbp Sy C' g.L) S.gs),by decide,rfl,Qxi _,?_,?_,t',ht,?_⟩
 ·simp only [QW,List.length_set,QK]; omega
 ·have:=QLH (k:=13) (w:=u) (mdl (Qbp Sy C' g.L) S.gs)
  rwa [Zi] at this
 ·show H.mk _ (List.take 12 (Q6 _ 5 ((bH g B S K E++_).set 13 none)))=_
  rw [Qkx (by decide) rfl]
theorem QMd (hT:Qe P tab) {base:Nat} {o:List (Option Ob)} (c:List Int) (hl:c.length≤1000000) :
 C P G base XX [.lst 1 (Qb c) false] ⟨t,o⟩ fun v σ=>∃ t' w,t≤t'∧v=.sl o.length w 0 1 c.length none∧σ=⟨t',o++[some (.arr w 3 (Qb c))]⟩:=by
 refine C_own 1 3 (Q:=fun v σ=>(v=.sl o.length t 0 1 c.length none∧σ=⟨t+1,o++[some (.arr t 3 (Qb c))]⟩)∨(c=[]∧v=.lst 0 [] true∧σ=⟨t,o⟩)) ?_ fun v σ hv=>?_
 ·refine Qo hT QP (by simp [QT]) (Qm 1000 ?_)
  simp -implicitDefEqProofs (disch:=omega) only [go_sem,↓reduceIte,reduceCtorEq,rq]
  cases c with
  | nil=>exact rfl
  | cons n c=>exact trivial
 ·rcases hv with ⟨rfl,rfl⟩ | ⟨rfl,rfl,rfl⟩
  ·exact .inl ⟨_,_,by omega,rfl,rfl⟩
  ·exact .inr ⟨0,rfl,_,_,Nat.le_succ _,rfl,rfl⟩
theorem Qti (hT:Qe P tab) {z:Nat} {o:List (Option Ob)} {c:List Int} {tg:Bool} (hz:c=[]∨z=1) (hl:c.length≤1000000) :
 C P G o.length XX [.lst z (Qb c) tg] ⟨t,o⟩ fun v σ=>v=.lst 1 (Qb c) false∧∃ t',t≤t'∧σ=⟨t',o⟩:=by
 have h0:=QyS (args:=[.lst z (Qb c) tg]) (.cons _ _ _ _ (.lst z 1 (Qb c) (Qb c) tg (.refl _) (hz.imp (fun e=>by rw [e]; rfl) id)) .nil) (QMd (P:=P) (G:=G) (base:=o.length) (t:=t) (o:=o) hT c hl)
 refine Qj o.length (lR _) (QaT h0 fun v σ hq=>?_)
 obtain ⟨t',w,ht,rfl,rfl⟩:=hq
 refine .inr ⟨o.length,w,3,Qb c,lR _,by simp,QL _,?_,Qug c,t',ht,?_⟩
 ·simp [QW]
 ·congr 1
  refine List.ext_getElem? fun m=>?_
  rw [List.getElem?_take]
  split
  ·rename_i hm
   rw [YX,if_pos hm,List.getElem?_set,if_neg (by omega),List.getElem?_append_left hm]
  ·rename_i hm
   rw [List.getElem?_eq_none (by omega)]
end
end Go.Proofs.YtoeicjlflmmmcaaGreatDoor
namespace Go.Proofs.YtoeicjlflmmmcaaGreatDoor
open Go Go.Am
set_option maxRecDepth 100000
variable {P:Program} {G:Nat→Option V}
set_option maxHeartbeats 1000000
theorem C_grow {f base t n T:Nat} {o:List (Option Ob)}
 (hs:∀ (a:Option Addr) (w:World),Calls P f #[.slice a 0 0,.int .i64 n] w fun e w'=>∃ (cells:Array Value) (d:Nat),e=.returned (.slice (some ⟨w.heap.size,0,none⟩) 0 cells.size)∧w'={ w with heap:=w.heap.push (.cells cells T (0,0)),drawn:=d }) :
 C P G base f [.lst 0 [] true,.int .i64 n] ⟨t,o⟩ fun r σ'=>r=.sl o.length t 0 1 0 none∧σ'=⟨t+1,o++[some (.arr t T [])]⟩:=by
 intro I ρ w xs hR hb hc
 have hx1:xs.size=2:=hc.1.symm
 obtain ⟨x,y,rfl⟩:∃ x y,xs=#[x,y]:=⟨xs[0],xs[1],by
  apply Array.ext
  ·simp [hx1]
  ·intro j h1 h2
   have:j=0∨j=1:=by omega
   rcases this with rfl | rfl <;> rfl⟩
 have hv:=hc.2 0 _ x rfl rfl
 have hy:y=.int .i64 n:=by
  have:=hc.2 1 _ y rfl rfl
  cases this; rfl
 subst hy
 have hsome:∃ a,x=.slice a 0 0:=by
  generalize hu:V.lst 0 [] true=u at hv
  cases hv with
  | lst _ _ l _ _ _ _ _ h0=>injection hu with _ h _; exact absurd h.symm h0
  | lstN _ _ _ a cap h=>injection hu with _ _ h'; exact ⟨a,by rw [h h'.symm]⟩
  | _=>cases hu
 obtain ⟨a,rfl⟩:=hsome
 refine (hs a w).mono fun e w' ⟨cells,d,h1,h2⟩=>?_
 obtain ⟨hR',hS⟩:=hR.new (base:=base) hb (T:=T) (cs:=[]) (c:=cells) (d:=d) (fun j v h=>by simp at h) (zL _) cells.size (zL _) (lR _) (0,0) (.inl rfl)
 refine ⟨_,_,I,_,_,h1,?_,h2▸hR',h2▸hS,by have hb':base≤o.length:=hb; simp []; omega,rfl,rfl⟩
 exact VR.sl _ o.length t 0 1 0 none w.heap.size 0 cells.size cells.size (Names.add_self _ _ _ _) (zL _) (fun m h=>by cases h) (fun _=>by omega)
end Go.Proofs.YtoeicjlflmmmcaaGreatDoor
