/- The law: the second loop, the third one. -/
import Derived.Test.YtoeicjlflmmmcaaGreatDoorJ13
open Nat renaming reduceEqDiff → rq, reduceAdd → rA, reduceLeDiff → rL, reduceLT → rT, zero_add → zA, le_refl → lR, zero_le → zL, add_zero → aZ
open List renaming length_cons → lC, length_nil → lN, take_succ_cons → tSq, length_append → lA, nil_append → nA, cons_append → cA, append_assoc → aA, take_nil → tN, take_zero → tZ, length_map → lM
open Bool renaming not_false → nFq, not_true → nT
namespace Go.Proofs.YtoeicjlflmmmcaaGreatDoor
open Go Go.Am Go.Bl
set_option maxRecDepth 100000
variable {P:Program} {G:Nat→Option V}
set_option maxHeartbeats 1000000
section
attribute [local go_sem] nT lR zA bne_self_eq_false decide_false decide_true QoO QoN QoM QoL QoK QoJ QoI QoH QoG QoF QoE QoD
theorem n64:((64:Nat):Int)=64:=rfl
def l2J (I:Int→Int→Bool) (val:Int→Int) (cap:Nat) (g:Gr) (x y:Int) (ev:V) (i:Nat) (fr:Fr) (σ:H):Prop :=
 ∃ t s B e,σ=⟨t,bT' g B s e⟩∧BInv I g.L val cap s∧0<s.S.cs.length∧(∀ j:Int,0≤j→j<i→(kL s.K j).isSome=true)∧Qd fr 2=.int .i64 x∧Qd fr 3=.int .i64 y∧Qd fr 5=ev∧Qd fr 9=.ptr 1 g.v0 0∧Qd fr 11=.ptr 7 g.b 0∧Qd fr 17=.int .i64 ((i:Nat):Int)
def l2E (I:Int→Int→Bool) (val:Int→Int) (cap:Nat) (g:Gr) (x y:Int) (ev:V) (ae:AE) (fr:Fr) (σ:H):Prop :=
 ae=.ex 2∧∃ t s B e,σ=⟨t,bT' g B s e⟩∧BInv I g.L val cap s∧0<s.S.cs.length∧(∀ j:Int,0≤j→j<g.L.length→(kL s.K j).isSome=true)∧Qd fr 2=.int .i64 x∧Qd fr 3=.int .i64 y∧Qd fr 5=ev∧Qd fr 9=.ptr 1 g.v0 0∧Qd fr 11=.ptr 7 g.b 0
variable {σ:H} {fr:Fr} {ev:V} {x y p q l1 l2:Int} {g:Gr} {cap i:Nat} {I:Int→Int→Bool}
theorem Qz5 (hT:Qe P tab) (SO:Q1 P) {val:Int→Int} (cx:Ctx I g.L val) (hnf:QeA g.L) (hLl:g.L.length≤1000000) (hi:i<g.L.length) (hJ:l2J I val cap g x y ev i fr σ) :
 W P G 235 0 wh fr σ (Qbb (fun fr σ=>∃ fr' σ',Shift G 235 0 fr σ fr' σ'∧l2J I val cap g x y ev (i+1) fr' σ') (l2E I val cap g x y ev)):=by
 obtain ⟨t,s,B,e,rfl,hs,hcs,hk,f2,f3,f5,f9,f11,f17⟩:=hJ
 have hki:(i:Int)<g.L.length:=by omega
 have hk0:(0:Int)≤(i:Int):=by omega
 have hw:=QhJ hi (by omega)
 obtain ⟨i1,u1,k1,n1,-⟩:=QMp cx hnf hs hk0 hki
 have h64:(kx (blB g.L s i).K i).length=64:=n1.len
 refine Qh [(2,.int .i64 x),(3,.int .i64 y),(5,ev),(9,.ptr 1 g.v0 0),(11,.ptr 7 g.b 0),(17,.int .i64 ((i:Nat):Int))] ⟨f2,f3,f5,f9,f11,f17,trivial⟩  1000 ?_
 simp -implicitDefEqProofs (disch:=omega) only [go_sem,↓reduceIte,rq]
 refine call hT QB (QeS hT) 1000 fun v σ hv=>?_
 obtain ⟨rfl,t1,ht1,rfl⟩:=hv
 simp -implicitDefEqProofs (disch:=omega) only [go_sem,↓reduceIte,rq,hki]
 refine call hT QR (Xj (by decide) (by rw [Q7]; decide) (QsX hT SO cx hnf hs hLl hk0 hki)) 1000 fun v σ hv=>?_
 obtain ⟨rfl,t2,B2,e2,ht2,rfl⟩:=hv
 simp -implicitDefEqProofs (disch:=omega) only [go_sem,↓reduceIte,rA,rq,rT,lC,lN,hw,QG n1.len,n64]
 refine ⟨_,_,Shift.refl _ _ _ _,_,blB g.L s i,B2,e2,rfl,i1,Nat.lt_of_lt_of_le hcs u1.c.length_le,fun j j0 j1=>?_,?_⟩
 ·rcases (show j<i∨j=i by omega) with h | h
  ·exact u1.some (hk j j0 h)
  ·rw [h]; exact k1
 ·simp -implicitDefEqProofs (disch:=omega) only [go_sem,↓reduceIte,rq]
theorem QLe (hT:Qe P tab) {val:Int→Int} (hi:i=g.L.length) (hJ:l2J I val cap g x y ev i fr σ) :
 W P G 235 0 wh fr σ (Qbb (fun _ _=>False) (l2E I val cap g x y ev)):=by
 obtain ⟨t,s,B,e,rfl,hs,hcs,hk,f2,f3,f5,f9,f11,f17⟩:=hJ
 refine Qh [(2,.int .i64 x),(3,.int .i64 y),(5,ev),(9,.ptr 1 g.v0 0),(11,.ptr 7 g.b 0),(17,.int .i64 ((i:Nat):Int))] ⟨f2,f3,f5,f9,f11,f17,trivial⟩  1000 ?_
 simp -implicitDefEqProofs (disch:=omega) only [go_sem,↓reduceIte,rq]
 refine call hT QB (QeS hT) 1000 fun v σ hv=>?_
 obtain ⟨rfl,t1,ht1,rfl⟩:=hv
 simp -implicitDefEqProofs (disch:=omega) only [go_sem,↓reduceIte,rq,hi,Int.lt_irrefl]
 exact ⟨rfl,_,s,B,e,rfl,hs,hcs,fun j j0 j1=>hk j j0 (by omega),rfl,rfl,rfl,rfl,rfl⟩
def l3J (Sy:List Int) (tS:Bool) (C':List Cl) (tC:Bool) (M:List Bool) (S2:List Int) (C2:List Cl) (p q l1 l2:Int) (g:Gr) (s:Bs) (i:Nat) (fr:Fr) (σ:H):Prop :=
 ∃ t B e,σ=⟨t,bT' g B s e⟩∧Qd fr 5=eR Sy tS C' tC∧Qd fr 9=.ptr 1 g.v0 0∧Qd fr 11=.ptr 7 g.b 0∧Qd fr 20=.int .i64 p∧Qd fr 21=.int .i64 q∧Qd fr 22=.int .i64 l1∧Qd fr 24=.int .i64 l2∧Qd fr 26=.lst 1 (nbs M) false∧Qd fr 28=eR S2 false C2 false∧Qd fr 29=.int .i64 ((i:Nat):Int)
def l3E (Sy:List Int) (tS:Bool) (C':List Cl) (tC:Bool) (M:List Bool) (p q l1 l2:Int) (g:Gr) (s:Bs) (ae:AE) (fr:Fr) (σ:H):Prop :=
 ae=.ex 4∧∃ t B e,σ=⟨t,bT' g B s e⟩∧Qd fr 5=eR Sy tS C' tC∧Qd fr 9=.ptr 1 g.v0 0∧Qd fr 11=.ptr 7 g.b 0∧Qd fr 20=.int .i64 p∧Qd fr 21=.int .i64 q∧Qd fr 22=.int .i64 l1∧Qd fr 24=.int .i64 l2∧Qd fr 26=.lst 1 (nbs M) false
variable {M:List Bool} {s:Bs} {C' C2:List Cl} {tS tC:Bool} {Sy S2:List Int}
theorem Qz4 (hT:Qe P tab) (SO:Q1 P) (hok:okN g.L) (hS:∀ x∈Sy,i64 x) (hC:C'.length≤1000000) (hCn:∀ c∈C',i64 c.n) (hnf:QeA g.L) (hLl:g.L.length≤1000000)
 (hS2:∀ x∈S2,i64 x) (hC2:C2.length≤1000000) (hC2n:∀ c∈C2,i64 c.n) (hb:∀ id:Int,0≤id→id<g.L.length→val S2 C2 g.L id=val Sy C' g.L id)
 (hs:BInv (Qbp Sy C' g.L) g.L (val Sy C' g.L) cap s) (hk:∀ j:Int,0≤j→j<g.L.length→(kL s.K j).isSome=true) (hM:M=mdl (Qbp Sy C' g.L) s.S.gs) (hi:i<g.L.length) (hJ:l3J Sy tS C' tC M S2 C2 p q l1 l2 g s i fr σ) :
 W P G 235 0 wi fr σ (Qbb (fun fr σ=>∃ fr' σ',Shift G 235 0 fr σ fr' σ'∧l3J Sy tS C' tC M S2 C2 p q l1 l2 g s (i+1) fr' σ') (l3E Sy tS C' tC M p q l1 l2 g s)):=by
 obtain ⟨t,B,e,rfl,f5,f9,f11,f20,f21,f22,f24,f26,f28,f29⟩:=hJ
 have cx:=Qjf hok hS hCn
 have hki:(i:Int)<g.L.length:=by omega
 have hk0:(0:Int)≤(i:Int):=by omega
 have hw:=QhJ hi (by omega)
 have hbi:=hb i hk0 hki
 obtain ⟨-,n1,w1⟩:=hs.k.get (hk i hk0 hki)
 have hgl:s.S.gs.length≤9000000:=by have:=hs.g; have:=hs.hc; omega
 have hml:(mdl (Qbp Sy C' g.L) s.S.gs).length=s.S.gs.length:=Zi _
 rw [← hM] at w1 hml
 rw [← hml] at n1 hgl
 have hN:=QtD (P:=P) (G:=G) hT n1 hgl w1 (cx.v64 i)
 have hB:=fun t B e=>QsX (P:=P) (G:=G) (t:=t) (B:=B) (e:=e) hT SO cx hnf hs hLl hk0 hki
 rw [QMj hk] at hB
 refine Qh [(5,eR Sy tS C' tC),(9,.ptr 1 g.v0 0),(11,.ptr 7 g.b 0),(20,.int .i64 p),(21,.int .i64 q),(22,.int .i64 l1),(24,.int .i64 l2),(26,.lst 1 (nbs M) false),(28,eR S2 false C2 false),(29,.int .i64 ((i:Nat):Int))] ⟨f5,f9,f11,f20,f21,f22,f24,f26,f28,f29,trivial⟩  1000 ?_
 simp -implicitDefEqProofs (disch:=omega) only [go_sem,↓reduceIte,rq]
 refine call hT QB (QeS hT) 1000 fun v σ hv=>?_
 obtain ⟨rfl,t1,ht1,rfl⟩:=hv
 simp -implicitDefEqProofs (disch:=omega) only [go_sem,↓reduceIte,reduceCtorEq,rA,rq,lC,lN,false_implies,and_true,hki]
 refine call hT QbT (q_Of hT SO hLl hok hS hC hCn hk0 hki) 1000 fun v σ hv=>?_
 obtain ⟨rfl,t2,ht2,rfl⟩:=hv
 simp -implicitDefEqProofs (disch:=omega) only [go_sem,↓reduceIte,reduceCtorEq,rA,rq,rT,lC,lN,false_implies,and_true]
 refine call hT QbT (q_Of hT SO hLl hok hS2 hC2 hC2n hk0 hki) 1000 fun v σ hv=>?_
 obtain ⟨rfl,t3,ht3,rfl⟩:=hv
 simp -implicitDefEqProofs (disch:=omega) only [go_sem,↓reduceIte,rA,rq,rT,lC,lN]
 refine call hT QR (Xj (by decide) (by rw [Q7]; decide) (hB _ _ _)) 1000 fun v σ hv=>?_
 obtain ⟨rfl,t4,B4,e4,ht4,rfl⟩:=hv
 simp -implicitDefEqProofs (disch:=omega) only [go_sem,↓reduceIte,rA,rq,rT,lC,lN]
 refine Qy hT Zd hN (by simp [Qc,Qf]) 1000 ?_
 simp -implicitDefEqProofs (disch:=omega) only [go_sem,↓reduceIte,rA,rq,hbi,hw]
 refine ⟨_,_,Shift.refl _ _ _ _,_,B4,e4,rfl,?_⟩
 simp -implicitDefEqProofs (disch:=omega) only [go_sem,↓reduceIte,rq]
theorem QLd (hT:Qe P tab) (hi:i=g.L.length) (hJ:l3J Sy tS C' tC M S2 C2 p q l1 l2 g s i fr σ) :
 W P G 235 0 wi fr σ (Qbb (fun _ _=>False) (l3E Sy tS C' tC M p q l1 l2 g s)):=by
 obtain ⟨t,B,e,rfl,f5,f9,f11,f20,f21,f22,f24,f26,f28,f29⟩:=hJ
 refine Qh [(5,eR Sy tS C' tC),(9,.ptr 1 g.v0 0),(11,.ptr 7 g.b 0),(20,.int .i64 p),(21,.int .i64 q),(22,.int .i64 l1),(24,.int .i64 l2),(26,.lst 1 (nbs M) false),(28,eR S2 false C2 false),(29,.int .i64 ((i:Nat):Int))] ⟨f5,f9,f11,f20,f21,f22,f24,f26,f28,f29,trivial⟩  1000 ?_
 simp -implicitDefEqProofs (disch:=omega) only [go_sem,↓reduceIte,rq]
 refine call hT QB (QeS hT) 1000 fun v σ hv=>?_
 obtain ⟨rfl,t1,ht1,rfl⟩:=hv
 simp -implicitDefEqProofs (disch:=omega) only [go_sem,↓reduceIte,rq,hi,Int.lt_irrefl]
 exact ⟨rfl,_,B,e,rfl,rfl,rfl,rfl,rfl,rfl,rfl,rfl,rfl⟩
end
section
attribute [local go_sem] nFq nT aZ lR zA zL beq_self_eq_true bne_self_eq_false Xt zq0_0 zq0_1 QoQ QoP QHO QoO QoN QoM QoL QoK QHN QHM zq0_2 QHL QHK QHJ QHI QHH QHG QHF QHE QHD QoJ zq0_3 QoI QoH QoG QoF QoE QoD QHC QHB QHA zq0_4 zq0_5 Qwr Qwq Qwp Qwo
theorem Qx7 {L:List Nd} {tv:Int→Int}:∀ (ids:List Int) (s:List Int × List Cl),(∀ id∈ids,i64 (tv id))→(∀ x∈s.1,i64 x)→(∀ c∈s.2,i64 c.n)→(∀ x∈(ids.foldl (enT L tv) s).1,i64 x)∧∀ c∈(ids.foldl (enT L tv) s).2,i64 c.n
 | [],_,_,h1,h2=>⟨h1,h2⟩
 | id::ids,s,h,h1,h2=>by
   rw [List.foldl_cons]
   have hid:=h id (by simp)
   refine Qx7 ids _ (fun i hi=>h i (by simp [hi])) (fun x hx=>?_) (fun c hc=>?_)
   ·unfold enT at hx
    split at hx
    ·rcases List.mem_or_eq_of_mem_set hx with hx | rfl
     ·rcases List.mem_append.1 hx with hx | hx
      ·exact h1 x hx
      ·rw [(List.mem_replicate.1 hx).2]; exact ⟨by decide,by decide⟩
     ·exact hid
    ·split at hx
     ·exact h1 x hx
     ·exact h1 x hx
   ·unfold enT at hc
    split at hc
    ·exact h2 c hc
    ·split at hc
     ·rcases List.mem_append.1 hc with hc | hc
      ·exact h2 c hc
      ·rw [List.mem_singleton.1 hc]; exact hid
     ·exact h2 c hc
variable {L:List Nd}
theorem Qxf (h:L.length=0) (id:Int):XP L [id]=[]:=by
 cases hu:XP L [id] with
 | nil=>rfl
 | cons u U =>
   have:=QaF (L:=L) (roots:=[id]) u (by rw [hu]; simp)
   omega
theorem QH7 (h:L.length=0) (s:Bs) (id:Int):blB L s id=s:=by
 unfold blB
 rw [Qxf h]; rfl
variable {s:Bs} {cap t e:Nat} {I:Int→Int→Bool}
theorem QH6 {val:Int→Int} (h:L.length=0) (hs:BInv I L val cap s) (id:Int):blV L s id=false:=by
 unfold blV
 rw [Qxf h]
 show (!List.any [] _&&(kL s.K id).isSome)=false
 cases hk:kL s.K id with
 | none=>rfl
 | some z=>have:=(hs.k.kn id z hk).1; omega
variable {B:Bv} {g:Gr}
theorem QzA (hT:Qe P tab) (SO:Q1 P) {val:Int→Int} (cx:Ctx I g.L val) (hs:BInv I g.L val cap s) (h:g.L.length=0) {id:Int} :
 C P G 5 XJ [.ptr 7 g.b 0,.int .i64 id] ⟨t,bT' g B s e⟩ fun v σ=>v=.tup [.int .i64 0,.bool false]∧∃ t' B' e',t≤t'∧σ=⟨t',bT' g B' s e'⟩:=by
 have:=QAf (P:=P) (G:=G) hT SO cx hs (by omega) (t:=t) (B:=B) (e:=e) (QH6 h hs id)
 rwa [QH7 h] at this
theorem QwZ (hT:Qe P tab) (SO:Q1 P) {val:Int→Int} (cx:Ctx I g.L val) (hs:BInv I g.L val cap s) (h:g.L.length=0) {x y:Int} :
 C P G 5 Xq [.ptr 7 g.b 0,.int .i64 x,.int .i64 y] ⟨t,bT' g B s e⟩ fun v σ=>v=.tup [.int .i64 0,.bool false]∧∃ t' B' e',t≤t'∧σ=⟨t',bT' g B' s e'⟩:=by
 have:=QxE (P:=P) (G:=G) (y:=y) hT SO cx hs (by omega) (t:=t) (B:=B) (e:=e) (QH6 h hs x)
 rwa [QH7 h] at this
theorem QeT (hT:Qe Tryz.prog tab) {val:Int→Int} (hs:BInv I g.L val cap s) (hcs:0<s.S.cs.length) :
 C Tryz.prog G 12 QZ [.ptr 7 g.b 0] ⟨t,bT' g B s e⟩ fun v σ=>v=fml s.S.gs.length s.S.cs∧∃ t',t≤t'∧σ=⟨t',bT' g B s e⟩:=by
 have h1:=hs.c
 have h2:=hs.g
 have h3:=hs.hc
 refine Qub hT hcs (by omega) (by omega) fun c hc=>⟨fun e=>?_,hs.k.ok.len c hc⟩
 have:=hs.k.ok.sat c hc
 rw [e] at this
 cases this
variable {M:List Bool}
theorem QmY (hT:Qe P tab) {val:Int→Int} (hs:BInv I L val cap s) (hM:M=mdl I s.S.gs) :
 Pure P G Qbd [fml s.S.gs.length s.S.cs,.lst 1 (nbs M) false] fun u=>u=.bool true:=by
 have h1:=hs.c
 have h2:=hs.g
 have h3:=hs.hc
 have hml:M.length=s.S.gs.length:=by rw [hM]; exact Zi _
 have:=QAV (P:=P) (G:=G) hT (F:=s.S.cs) (m:=M) (by rw [hml]; exact hs.k.ok.lits) (by rw [hM]; exact hs.k.ok.sat) (fun c hc=>by have:=hs.k.ok.len c hc; omega) (by omega) (by omega)
 rwa [hml] at this
variable {C':List Cl} {Sy:List Int}
theorem QwY (hT:Qe P tab) (SO:Q1 P) {val:Int→Int} (hL:g.L.length≤1000000) (hok:okN g.L) (hS:∀ x∈Sy,i64 x) (hC:C'.length≤1000000) (hCn:∀ c∈C',i64 c.n) {tS tC:Bool} (hs:BInv (Qbp Sy C' g.L) g.L val cap s) (hM:M=mdl (Qbp Sy C' g.L) s.S.gs) :
 C P G 5 Xf [.ptr 7 g.b 0,.agg [.lst 1 (Qb Sy) tS,.lst 4 (C'.map Cl.v) tC]] ⟨t,bT' g B s e⟩ fun v σ=>v=.lst 1 (nbs M) false∧∃ t',t≤t'∧σ=⟨t',bT' g B s e⟩:=by
 have h2:=hs.g
 have h3:=hs.hc
 subst hM
 exact Qth hT SO hL hok Sy hS tS C' hC hCn tC hs.k.ok.wf (by omega)
theorem nd_sym (hok:okN L) (hnf:QeA L) (id:Int) (h2:(nd L id).kind=2):0≤(nd L id).n∧(nd L id).n≤65536:=by
 have e:nd L id=nd L ((id.toNat:Nat):Int):=by unfold nd; rw [Int.toNat_natCast]
 rw [e] at h2 ⊢
 generalize id.toNat=j at *
 rcases Nat.lt_or_ge j L.length with hj | hj
 ·have hg:=QH9 (L:=L) (x:=(j:Int)) (by omega) (by omega)
  obtain ⟨-,-,hm⟩:=hok _ _ hg
  have hf:=hnf j (by omega) (by omega)
  unfold QgZ at hf
  rw [decide_eq_true h2,Bool.true_and] at hf
  have hf2:=of_decide_eq_false hf
  have e1:¬ (2:Int)=1:=by decide
  simp only [Nd.may,h2,e1,if_false,if_true,Bool.and_eq_true,decide_eq_true_eq] at hm
  exact ⟨hm.2,by omega⟩
 ·have:(nd L (j:Int)).kind=0:=by unfold nd; rw [Int.toNat_natCast,List.getD_eq_getElem?_getD,List.getElem?_eq_none hj]; rfl
  omega
theorem q_Env (hT:Qe P tab) (SO:Q1 P) (hok:okN g.L) (hnf:QeA g.L) (hL:g.L.length≤1000000) (hS:∀ x∈Sy,i64 x) (hCn:∀ c∈C',i64 c.n) (hs:BInv (Qbp Sy C' g.L) g.L (val Sy C' g.L) cap s) (hk:∀ j:Int,0≤j→j<g.L.length→(kL s.K j).isSome=true) (hM:M=mdl (Qbp Sy C' g.L) s.S.gs) :
 C P G 5 Yz [.ptr 7 g.b 0,.lst 1 (nbs M) false] ⟨t,bT' g B s e⟩ fun v σ=>∃ S2 C2,v=.agg [.lst 1 (Qb S2) false,.lst 4 (C2.map Cl.v) false]∧((∀ x∈S2,i64 x)∧C2.length≤1000000∧(∀ c∈C2,i64 c.n)∧∀ id:Int,0≤id→id<g.L.length→val S2 C2 g.L id=val Sy C' g.L id)∧∃ t',t≤t'∧σ=⟨t',bT' g B s e⟩:=by
 have cx:=Qjf hok hS hCn
 have h2:=hs.g
 have h3:=hs.hc
 have h4:=hs.kl
 have hL2:=nd_sym hok hnf
 have hml:M.length=s.S.gs.length:=by rw [hM]; exact Zi _
 refine (k_Env hT SO cx hs.k hml (by omega) (by omega) hL2).conseq fun v σ ⟨ids,hids,hil,hv,hσ⟩=>?_
 have hids':∀ x:Int,x∈ids↔0≤x∧x<g.L.length:=fun x=>by
  rw [hids x]
  exact ⟨fun h=>(hs.k.get h).1,fun h=>hk x h.1 h.2⟩
 have htv:∀ id:Int,0≤id→id<g.L.length→tlS M (kx s.K id) 64=val Sy C' g.L id:=fun id h0 h1=>by
  obtain ⟨-,-,t⟩:=hs.k.get (hk id h0 h1)
  rw [← hM] at t
  exact tl_val t (cx.v64 id)
 have hi:=Qx7 (L:=g.L) (tv:=fun id=>tlS M (kx s.K id) 64) ids ([],[]) (fun id hid=>by
  obtain ⟨h0,h1⟩:=(hids' id).1 hid
  show i64 (tlS M (kx s.K id) 64)
  rw [htv id h0 h1]
  exact cx.v64 id) (by simp) (by simp)
 have hle:(enF g.L (fun id=>tlS M (kx s.K id) 64) ids).2.length≤([]:List Cl).length+ids.length:=(QrA (L:=g.L) (tv:=fun id=>tlS M (kx s.K id) 64) (fun id h2=>(hL2 id h2).2) ids ([],[]) (by simp)).2
 rw [lN,zA] at hle
 have hb:=fun id h0 h1=>Qyw (L:=g.L) hok (Sy:=Sy) (C':=C') hids' htv (fun id h=>(hL2 id h).1) (id.toNat+1) id (by omega) h0 h1
 exact ⟨_,_,hv,⟨hi.1,Nat.le_trans hle hil,hi.2,hb⟩,hσ⟩
theorem Qyd (a b:Int):decide (a≠b)=(a != b):=by by_cases h:a=b <;> simp [h]
theorem QKN (hT:Qe P tab) {fmt:Int→List UInt8} {v0 v1 v2 v3 v4:Nat} :
 C P G 5 QdC [.ptr 1 v0 0] ⟨t,kG fmt v0 v1 v2 v3 v4 L⟩ fun v σ=>∃ (g:Gr) (t':Nat) (B:Bv) (e:Nat),g.L=L∧v0=g.v0∧t≤t'∧v=.ptr 7 g.b 0∧σ=⟨t',bT' g B b0 e⟩ :=
 (k_New hT).conseq fun v σ ⟨m,k,b,n,t',B,e,ht,hv,hσ⟩=>⟨⟨fmt,v0,v1,v2,v3,v4,m,k,b,n,L⟩,t',B,e,rfl,rfl,ht,hv,hσ⟩
theorem QjP (hT:Qe Tryz.prog tab) (F:Fmt Tryz.prog G) (SO:Q1 Tryz.prog) (l:List Nd) (tl:Bool) (hl:∀ d∈l,i64 d.n∧i64 d.a) (hll:l.length≤9223372036854775807) (Sy:List Int) (tS:Bool) (C':List Cl) (tC:Bool) (hS:∀ x∈Sy,i64 x) (hCn:∀ c∈C',i64 c.n) (x y:Int) :
 Pure Tryz.prog G Yy [.lst 6 (l.map fun d=>.agg d.cells) tl,QiX Sy tS 4 C' tC,.int .i64 x,.int .i64 y] fun v=>v=.bool true:=by
 intro t
 have hW:=QlC (P:=Tryz.prog) (G:=G) hT F SO
 have hf:=QL9 (P:=Tryz.prog) (G:=G) (tl:=tl) (S:=Sy) (tS:=tS) (C':=C') (tC:=tC) (top:=14) hT hll
 refine Qj 0 (zL _) (Qo hT QV (by simp [Xt]) (Qm 20 ?_))
 unfold QiX at hf ⊢
 simp -implicitDefEqProofs (disch:=omega) only [go_sem,↓reduceIte,reduceCtorEq,rA,rq,lC,lN,nA,false_implies,and_true]
 cases hfb:QLI l Sy C' 14 with
 | false =>
   rw [hfb] at hf
   refine Qy hT Yd hf (by simp [Qc,Qf]) 1000 ?_
   simp -implicitDefEqProofs (disch:=omega) only [go_sem,↓reduceIte,reduceCtorEq,rq]
   refine Qy hT QJ hW rfl 1000 ?_
   simp -implicitDefEqProofs (disch:=omega) only [go_sem,↓reduceIte,reduceCtorEq,rq,lC,lN,and_true]
 | true =>
   rw [hfb] at hf
   refine Qy hT Yd hf (by simp [Qc,Qf]) 4 ?_
   simp -implicitDefEqProofs (disch:=omega) only [go_sem,↓reduceIte,reduceCtorEq,rq]
   have hl14:l.length≤14∧mulN l≤2∧Sy.length≤60∧C'.length≤60:=by
    unfold QLI at hfb
    simp only [Bool.and_eq_true,decide_eq_true_eq] at hfb
    omega
   have hL14:=QzW l
   have hm2:=QzV l
   have hok:=Qm4 l hl
   refine QX (Shift.freeze (k:=0) (v:=t) (T:=26) (cs:=[.lst 1 (Qb Sy) tS,.lst 4 (C'.map Cl.v) tC]) (zL _) rfl rfl) ?_
   simp only [List.set_cons_zero,Y4,ZP,Qfc,Qlm,Qfd,Qfb,Q6,Option.map_none]
   refine QX (Shift.drop (o':=[]) (t':=t+1) (by simp [Zl]) (lR _) (zL _)) (Qg 1000 ?_)
   simp -implicitDefEqProofs (disch:=omega) only [go_sem,↓reduceIte,reduceCtorEq,rq]
   refine call hT Yv (QnA hT F l tl hl (by omega)) 1000 fun v σ hv=>?_
   obtain ⟨v0,v1,v2,v3,v4,t1,ht1,rfl,rfl⟩:=hv
   simp -implicitDefEqProofs (disch:=omega) only [go_sem,↓reduceIte,reduceCtorEq,rA,rq,rT,lC,lN]
   refine call hT Qan (Xj (by decide) (by simp [kG]) (QKN hT)) 1000 fun v σ hv=>?_
   obtain ⟨g,t2,B2,e2,hgL,hv0,ht2,rfl,rfl⟩:=hv
   subst hv0
   rw [← hgL] at hok hL14 hm2
   have cx:=Qjf hok hS hCn
   have i0:BInv (Qbp Sy C' g.L) g.L (val Sy C' g.L) 400000 b0:=inv0 (by omega) (by omega)
   simp -implicitDefEqProofs (disch:=omega) only [go_sem,↓reduceIte,reduceCtorEq,rq]
   refine XQ g.L.length (l1J g B2 e2 x y (eR Sy tS C' tC)) (l1E g B2 e2 x y (eR Sy tS C' tC)) ⟨t2,rfl,fun j j0 j1=>absurd j1 (by omega),by simp -implicitDefEqProofs (disch:=omega) only [go_sem,↓reduceIte,reduceCtorEq,rq],by simp -implicitDefEqProofs (disch:=omega) only [go_sem,↓reduceIte,reduceCtorEq,rq],by simp -implicitDefEqProofs (disch:=omega) only [go_sem,↓reduceIte,reduceCtorEq,rq],by simp -implicitDefEqProofs (disch:=omega) only [go_sem,↓reduceIte,reduceCtorEq,rq],by simp -implicitDefEqProofs (disch:=omega) only [go_sem,↓reduceIte,reduceCtorEq,rq],by simp -implicitDefEqProofs (disch:=omega) only [go_sem,↓reduceIte,reduceCtorEq,rq]; rfl⟩ (fun i hi fr σ hJ=>Qz6 hT F SO cx i0 (by omega) hi hJ) (fun i hi fr σ hJ=>QLf hT hi hJ) (fun e fr σ hE=>?_)
   rcases hE with ⟨rfl,f8⟩ | ⟨rfl,hnf,t3,rfl,f2,f3,f5,f9,f11⟩
   ·refine Qg 1000 ?_
    simp -implicitDefEqProofs (disch:=omega) only [go_sem,f8]
   refine XN [(2,.int .i64 x),(3,.int .i64 y),(5,eR Sy tS C' tC),(9,.ptr 1 g.v0 0),(11,.ptr 7 g.b 0)] ⟨f2,f3,f5,f9,f11,trivial⟩ 1000 ?_
   simp -implicitDefEqProofs (disch:=omega) only [go_sem,↓reduceIte,rq]
   refine XQ g.L.length (l2J (Qbp Sy C' g.L) (val Sy C' g.L) 400000 g x y (eR Sy tS C' tC)) (l2E (Qbp Sy C' g.L) (val Sy C' g.L) 400000 g x y (eR Sy tS C' tC)) ⟨t3,b0,B2,e2,rfl,i0,Nat.one_pos,fun j j0 j1=>absurd j1 (by omega),by simp -implicitDefEqProofs (disch:=omega) only [go_sem,↓reduceIte],by simp -implicitDefEqProofs (disch:=omega) only [go_sem,↓reduceIte,rq],by simp -implicitDefEqProofs (disch:=omega) only [go_sem,↓reduceIte,rq],by simp -implicitDefEqProofs (disch:=omega) only [go_sem,↓reduceIte,rq],by simp -implicitDefEqProofs (disch:=omega) only [go_sem,↓reduceIte,rq],by simp -implicitDefEqProofs (disch:=omega) only [go_sem,↓reduceIte,rq]; rfl⟩ (fun i hi fr σ hJ=>Qz5 hT SO cx hnf (by omega) hi hJ) (fun i hi fr σ hJ=>QLe hT hi hJ) (fun e fr σ hE=>?_)
   obtain ⟨rfl,t4,s,B4,e4,rfl,hs,hcs,hk,f2,f3,f5,f9,f11⟩:=hE
   refine XN [(2,.int .i64 x),(3,.int .i64 y),(5,eR Sy tS C' tC),(9,.ptr 1 g.v0 0),(11,.ptr 7 g.b 0)] ⟨f2,f3,f5,f9,f11,trivial⟩ 1000 ?_
   simp -implicitDefEqProofs (disch:=omega) only [go_sem,↓reduceIte,rq]
   refine call hT QB (QeS hT) 1000 fun v σ hv=>?_
   obtain ⟨rfl,t5,ht5,rfl⟩:=hv
   simp -implicitDefEqProofs (disch:=omega) only [go_sem,↓reduceIte,rq]
   refine Qy hT Ze (Qyp hT (by omega)) rfl 1000 ?_
   simp -implicitDefEqProofs (disch:=omega) only [go_sem,↓reduceIte,rq]
   refine call hT QB (QeS hT) 1000 fun v σ hv=>?_
   obtain ⟨rfl,t6,ht6,rfl⟩:=hv
   simp -implicitDefEqProofs (disch:=omega) only [go_sem,↓reduceIte,rq]
   refine Qy hT Ze (Qyp hT (by omega)) rfl 1000 ?_
   simp -implicitDefEqProofs (disch:=omega) only [go_sem,↓reduceIte,rq]
   by_cases hz:g.L.length=0
   ·refine call hT Xc (Xj (by decide) (by rw [Q7]; decide) (QzA hT SO cx hs hz)) 1000 fun v σ hv=>?_
    obtain ⟨rfl,t7,B7,e7,ht7,rfl⟩:=hv
    simp -implicitDefEqProofs (disch:=omega) only [go_sem,↓reduceIte,rA,rq,rT,lC,lN]
    refine call hT QQ (Xj (by decide) (by rw [Q7]; decide) (QwZ hT SO cx hs hz)) 1000 fun v σ hv=>?_
    obtain ⟨rfl,t8,B8,e8,ht8,rfl⟩:=hv
    simp -implicitDefEqProofs (disch:=omega) only [go_sem,↓reduceIte,reduceCtorEq,rA,rq,rT,lC,lN,false_implies,and_true]
    obtain ⟨M,hM⟩:∃ M,M=mdl (Qbp Sy C' g.L) s.S.gs:=⟨_,rfl⟩
    refine call hT QM (Xj (by decide) (by rw [Q7]; decide) (QwY hT SO (by omega) hok hS (by omega) hCn hs hM)) 1000 fun v σ hv=>?_
    obtain ⟨rfl,t9,ht9,rfl⟩:=hv
    simp -implicitDefEqProofs (disch:=omega) only [go_sem,↓reduceIte,rq]
    refine call hT Qt (Xj (by decide) (by rw [Q7]; decide) (QeT hT hs hcs)) 3 fun v σ hv=>?_
    obtain ⟨rfl,t10,ht10,rfl⟩:=hv
    unfold fml
    simp -implicitDefEqProofs (disch:=omega) only [go_sem,↓reduceIte,rA,rq,Q7,Qiq,Qcq,lC,lN,nA,cA,and_true]
    refine QX (Qky rfl) ?_
    simp only [Y4,ZP,Qfc,Qlm,Qfd,QjL,Qh9,Qfb,ne_eq,rq,not_false_eq_true]
    refine Qg 1000 ?_
    simp -implicitDefEqProofs (disch:=omega) only [go_sem,↓reduceIte,rq]
    refine call hT QB (QeS hT) 1000 fun v σ hv=>?_
    obtain ⟨rfl,t11,ht11,rfl⟩:=hv
    have hH:=QmY (P:=Tryz.prog) (G:=G) hT hs hM
    unfold fml at hH
    have hz':(g.L.length:Int)=0:=by omega
    simp -implicitDefEqProofs (disch:=omega) only [go_sem,↓reduceIte,reduceCtorEq,rA,rq,lC,lN,false_implies,and_true,hz']
    refine Qy hT Qak hH (by simp [Qc,Qf]) 1000 ?_
    simp -implicitDefEqProofs (disch:=omega) only [go_sem,↓reduceIte,rA,rq]
    refine Qy hT QJ hW rfl 1000 ?_
    simp -implicitDefEqProofs (disch:=omega) only [go_sem,↓reduceIte,rq,Q7,and_true]
   ·obtain ⟨p0,p1⟩:=Qra (i:=x) hz
    obtain ⟨q0,q1⟩:=Qra (i:=y) hz
    generalize Qm1 x g.L.length=p at *
    generalize Qm1 y g.L.length=q at *
    have hTr:=fun t B e=>QwX (P:=Tryz.prog) (G:=G) (t:=t) (B:=B) (e:=e) hT SO cx hnf hs (by omega) p0 p1
    obtain ⟨i1,u1,l1,w1⟩:=tr_ok cx hnf hs (by omega) p0 p1
    refine call hT Xc (Xj (by decide) (by rw [Q7]; decide) (hTr _ _ _)) 1000 fun v σ hv=>?_
    clear hTr
    obtain ⟨rfl,t7,B7,e7,ht7,rfl⟩:=hv
    generalize trS g.L s p=r1 at *
    simp -implicitDefEqProofs (disch:=omega) only [go_sem,↓reduceIte,rA,rq,rT,lC,lN]
    have hDf:=fun t B e=>QmZ (P:=Tryz.prog) (G:=G) (t:=t) (B:=B) (e:=e) hT SO cx hnf i1 (by omega) p0 p1 q0 q1
    obtain ⟨i2,u2,l2,w2⟩:=QLX cx hnf i1 (by omega) p0 p1 q0 q1
    refine call hT QQ (Xj (by decide) (by rw [Q7]; decide) (hDf _ _ _)) 1000 fun v σ hv=>?_
    clear hDf
    obtain ⟨rfl,t8,B8,e8,ht8,rfl⟩:=hv
    generalize dfS g.L r1.1 p q=r2 at *
    simp -implicitDefEqProofs (disch:=omega) only [go_sem,↓reduceIte,reduceCtorEq,rA,rq,rT,lC,lN,false_implies,and_true]
    obtain ⟨M,hM⟩:∃ M,M=mdl (Qbp Sy C' g.L) r2.1.S.gs:=⟨_,rfl⟩
    refine call hT QM (Xj (by decide) (by rw [Q7]; decide) (QwY hT SO (by omega) hok hS (by omega) hCn i2 hM)) 1000 fun v σ hv=>?_
    obtain ⟨rfl,t9,ht9,rfl⟩:=hv
    simp -implicitDefEqProofs (disch:=omega) only [go_sem,↓reduceIte,rq]
    refine call hT Qt (Xj (by decide) (by rw [Q7]; decide) (QeT hT i2 (Nat.lt_of_lt_of_le hcs (u1.trans u2).c.length_le))) 3 fun v σ hv=>?_
    obtain ⟨rfl,t10,ht10,rfl⟩:=hv
    unfold fml
    simp -implicitDefEqProofs (disch:=omega) only [go_sem,↓reduceIte,rA,rq,Q7,Qiq,Qcq,lC,lN,nA,cA,and_true]
    refine QX (Qky rfl) ?_
    simp only [Y4,ZP,Qfc,Qlm,Qfd,QjL,Qh9,Qfb,ne_eq,rq,not_false_eq_true]
    refine Qg 1000 ?_
    simp -implicitDefEqProofs (disch:=omega) only [go_sem,↓reduceIte,rq]
    refine call hT QB (QeS hT) 1000 fun v σ hv=>?_
    obtain ⟨rfl,t11,ht11,rfl⟩:=hv
    have hH:=QmY (P:=Tryz.prog) (G:=G) hT i2 hM
    unfold fml at hH
    have hz':¬ (g.L.length:Int)=0:=by omega
    have hml:M.length=r2.1.S.gs.length:=by rw [hM]; exact Zi _
    simp -implicitDefEqProofs (disch:=omega) only [go_sem,↓reduceIte,reduceCtorEq,rA,rq,rL,Q7,lC,lN,false_implies,true_implies,true_and,and_true,not_false_eq_true,hz',Yp,hml]
    refine Qy hT Qak hH (by simp [Qc,Qf]) 1000 ?_
    simp -implicitDefEqProofs (disch:=omega) only [go_sem,↓reduceIte,rA,rq]
    have hk2:∀ j:Int,0≤j→j<g.L.length→(kL r2.1.K j).isSome=true:=fun j j0 j1=>(u1.trans u2).some (hk j j0 j1)
    refine call hT Qb5 (Xj (by decide) (by rw [Q7]; decide) (q_Env hT SO hok hnf (by omega) hS hCn i2 hk2 hM)) 3 fun v σ hv=>?_
    obtain ⟨S2,C2,rfl,⟨hS2,hC2,hC2n,hb⟩,t12,ht12,rfl⟩:=hv
    simp -implicitDefEqProofs (disch:=omega) only [go_sem,↓reduceIte,rA,rq,Q7,Qiq,Qcq,lC,lN,nA,cA,and_true]
    refine QX (Qky rfl) ?_
    simp only [Y4,ZP,Qfc,Qlm,Qfd,QjL,Qh9,Qfb,ne_eq,rq,not_false_eq_true]
    refine Qg 1000 ?_
    simp -implicitDefEqProofs (disch:=omega) only [go_sem,↓reduceIte,rq]
    refine XQ g.L.length (l3J Sy tS C' tC M S2 C2 p q r1.2 r2.2 g r2.1) (l3E Sy tS C' tC M p q r1.2 r2.2 g r2.1) ⟨_,_,_,rfl,by simp -implicitDefEqProofs (disch:=omega) only [go_sem,↓reduceIte,rq],by simp -implicitDefEqProofs (disch:=omega) only [go_sem,↓reduceIte,rq],by simp -implicitDefEqProofs (disch:=omega) only [go_sem,↓reduceIte,rq],by simp -implicitDefEqProofs (disch:=omega) only [go_sem,↓reduceIte,rq],by simp -implicitDefEqProofs (disch:=omega) only [go_sem,↓reduceIte,rq],by simp -implicitDefEqProofs (disch:=omega) only [go_sem,↓reduceIte,rq],by simp -implicitDefEqProofs (disch:=omega) only [go_sem,↓reduceIte,rq],by simp -implicitDefEqProofs (disch:=omega) only [go_sem,↓reduceIte,rq],by simp -implicitDefEqProofs (disch:=omega) only [go_sem,↓reduceIte,rq],by simp -implicitDefEqProofs (disch:=omega) only [go_sem,↓reduceIte,rq]; rfl⟩ (fun i hi fr σ hJ=>Qz4 hT SO hok hS (by omega) hCn hnf (by omega) hS2 hC2 hC2n hb i2 hk2 hM hi hJ) (fun i hi fr σ hJ=>QLd hT hi hJ) (fun e fr σ hE=>?_)
    obtain ⟨rfl,t13,B13,e13,rfl,f5,f9,f11,f20,f21,f22,f24,f26⟩:=hE
    obtain ⟨l1',w1'⟩:=u2.lv (I:=Qbp Sy C' g.L) l1
    rw [w1,← hM] at w1'
    rw [← hM] at w2
    rw [← hml] at l1' l2
    have h2:=i2.g
    have h3:=i2.hc
    have hH1:=Qfy (P:=Tryz.prog) (G:=G) hT l1' (by omega)
    have hH2:=Qfy (P:=Tryz.prog) (G:=G) hT l2 (by omega)
    rw [w1',Qyd] at hH1
    rw [w2,Qyd] at hH2
    refine XN [(5,eR Sy tS C' tC),(9,.ptr 1 g.v0 0),(11,.ptr 7 g.b 0),(20,.int .i64 p),(21,.int .i64 q),(22,.int .i64 r1.2),(24,.int .i64 r2.2),(26,.lst 1 (nbs M) false)] ⟨f5,f9,f11,f20,f21,f22,f24,f26,trivial⟩ 1000 ?_
    simp -implicitDefEqProofs (disch:=omega) only [go_sem,↓reduceIte,reduceCtorEq,rA,rq,lC,lN,false_implies,and_true]
    refine call hT QbT (q_Of hT SO (by omega) hok hS (by omega) hCn p0 p1) 1000 fun v σ hv=>?_
    obtain ⟨rfl,t14,ht14,rfl⟩:=hv
    simp -implicitDefEqProofs (disch:=omega) only [go_sem,↓reduceIte,reduceCtorEq,rA,rq,rT,lC,lN,false_implies,and_true]
    refine call hT QbT (q_Of hT SO (by omega) hok hS (by omega) hCn q0 q1) 1000 fun v σ hv=>?_
    obtain ⟨rfl,t15,ht15,rfl⟩:=hv
    simp -implicitDefEqProofs (disch:=omega) only [go_sem,↓reduceIte,rA,rq,rT,lC,lN]
    refine Qy hT Xp hH1 (by simp [Qc,Qf]) 1000 ?_
    simp -implicitDefEqProofs (disch:=omega) only [go_sem,↓reduceIte,rA,rq]
    refine Qy hT Xp hH2 (by simp [Qc,Qf]) 1000 ?_
    simp -implicitDefEqProofs (disch:=omega) only [go_sem,↓reduceIte,rA,rq]
    refine Qy hT QJ hW rfl 1000 ?_
    simp -implicitDefEqProofs (disch:=omega) only [go_sem,↓reduceIte,rq,Q7,and_true]
end
end Go.Proofs.YtoeicjlflmmmcaaGreatDoor
