/- Contracts: cells of the same place. -/
import Derived.Test.YtoeicjlflmmmcaaGreatDoorJ8
open Nat renaming reduceEqDiff → rq, reduceAdd → rA, reduceLeDiff → rL, reduceLT → rT, zero_add → zA, le_refl → lR, zero_le → zL, add_zero → aZ
open List renaming length_cons → lC, length_nil → lN, take_succ_cons → tSq, length_append → lA, nil_append → nA, cons_append → cA, append_assoc → aA, take_nil → tN, take_zero → tZ, length_map → lM
open Bool renaming not_false → nFq, not_true → nT
namespace Go.Proofs.YtoeicjlflmmmcaaGreatDoor
open Go Go.Am Go.Bl
set_option maxRecDepth 100000
variable {P:Program} {G:Nat→Option V} {I:Int→Int→Bool}
set_option maxHeartbeats 1000000
section
attribute [local go_sem] nFq nT aZ lR Nat.mul_one zA Option.getD_some YV QFC QFB QmK QmJ QmI QvK QvJ QFA QFz QFy QFx QFw QFv Qsw Qsv bne_self_eq_false decide_false decide_true Q3
variable {E:Ev} {K:List (Int × List Int)} {S S2:St} {g:Gr}
theorem x_add (hT:Qe P tab) (l:List Int) (h:S.cs.length<1048576) (t:Nat) (B:Bv) (ex:List (Option Ob)) :
 C P G 5 Qat [.ptr 7 g.b 0,trw l] ⟨t,bH g B S K E++ex⟩ fun v σ=>v=.tup []∧∃ t' B',t≤t'∧σ=⟨t',bH g B' ⟨S.gs,S.cs++[l]⟩ K E++ex⟩ :=
 QcJ (fun _ _=>QrU hT l h) (by simp [trw,QU,V.under]) rfl t B ex
variable {x y:List Int}
theorem QAI {L:List Nd} {val:Int→Int} {E:List Int} (C:Ctx I L val) (h:Kn I L val S K E) {id o:Int} (hx:kL K id=some x) (h3:(nd L id).kind=3) (ho:o∈E) (hc:(nd L o).a=(nd L id).a∧(nd L o).n=(nd L id).n) :
 ∃ y yn ym,kL K o=some y∧kL K (nd L id).y=some yn∧kL K (nd L o).y=some ym∧Nb S.gs.length x∧Nb S.gs.length y∧Nb S.gs.length yn∧Nb S.gs.length ym ∧
   Goes I 448 128 S (Qv S yn ym).1∧lit (Qv S yn ym).1.gs.length (Qv S yn ym).2 ∧
   (∀ n,n≤64→Goes I (2 * n) 0 (Qv S yn ym).1 (it (clT (Qv S yn ym).2 x y) n (Qv S yn ym).1)) ∧
   clS L K (nd L id) x S o=it (clT (Qv S yn ym).2 x y) 64 (Qv S yn ym).1:=by
 have hid:(kL K id).isSome=true:=by rw [hx]; rfl
 obtain ⟨ko,k3⟩:=h.ce o ho
 obtain ⟨y,hy⟩:=Option.isSome_iff_exists.1 ko
 obtain ⟨yn,hyn⟩:=Option.isSome_iff_exists.1 (h.cl id hid _ (QKP h3))
 obtain ⟨ym,hym⟩:=Option.isSome_iff_exists.1 (h.cl o ko _ (QKP k3))
 obtain ⟨i1,i2,i3⟩:=h.kn id x hx
 obtain ⟨o1,o2,o3⟩:=h.kn o y hy
 obtain ⟨y1,y2,y3⟩:=h.kn _ yn hyn
 obtain ⟨z1,z2,z3⟩:=h.kn _ ym hym
 obtain ⟨u1,u2,u3⟩:=QcZ h.ok y2 z2 y3 z3
 refine ⟨y,yn,ym,hy,hyn,hym,i2,o2,y2,z2,u1,u2,fun n hn=>(QL3 u1.ok (i2.goes u1) (o2.goes u1) (i3.goes i2 u1) (o3.goes o2 u1) u2 ?_ n hn).1,?_⟩
 ·cases hv:lv (mdl I (Qv S yn ym).1.gs) (Qv S yn ym).2 with
  | true=>exact .inl rfl
  | false =>
    right
    have e:=u3.1 hv
    have v1:=C.v64 (nd L id).y
    have v2:=C.v64 (nd L o).y
    have ee:val (nd L id).y=val (nd L o).y:=by unfold cg at e; unfold Qll at v1 v2; omega
    exact C.c3 id o i1.1 i1.2 o1.1 o1.2 h3 k3 hc.1.symm hc.2.symm ee
 ·unfold clS
  rw [if_pos hc,Qf3 hy,Qf3 hyn,Qf3 hym]
variable {B:Bv} {t i vd vx k:Nat} {fr:Fr}
theorem Qyb {n:Nat} {a b:Option Ob} (r:List (Option Ob)):Shift G n 5 fr ⟨t,bH g B S K E++a::b::r⟩ fr ⟨t,bH g B S K E++[a,b]⟩ :=
 Shift.drop (Xd 14 (bH g B S K E++a::b::r)) (lR _) (by rw [QK]; omega)
theorem QzT {U:List Int} {u:Int} (h:U[i]?=some u):(U.map (V.int .i64)).getD i V.any=.int .i64 u:=QiF h
def clJ (g:Gr) (t:Nat) (K:List (Int × List Int)) (E:Ev) (id ap:Int) (x y:List Int) (S2:St) (dc:List V) (i vd vx:Nat) (k:Nat) (fr:Fr) (σ:H):Prop :=
 ∃ mo vy t3 B3,t≤t3∧σ=⟨t3,bH g B3 (it (clT ap x y) k S2) K E++[some (.arr vd 39 dc),some (.arr vx 85 (Qb x)),mo,some (.arr vy 85 (Qb y))]⟩∧Qd fr 0=.ptr 7 g.b 0∧Qd fr 1=.int .i64 id∧Qd fr 6=.ptr 12 vd 0∧Qd fr 7=.ptr 13 vx 0∧Qd fr 18=.sl 10 E.v 0 1 E.l.length none∧Qd fr 19=.int .i64 E.l.length∧Qd fr 20=.int .i64 ((i:Nat):Int)∧Qd fr 12=.int .i64 ap∧Qd fr 13=.ptr 15 vy 0∧Qd fr 67=.int .i64 ((k:Nat):Int)
def clE (g:Gr) (t:Nat) (K:List (Int × List Int)) (E:Ev) (id ap:Int) (x y:List Int) (S2:St) (dc:List V) (i vd vx:Nat) (e:AE) (fr:Fr) (σ:H):Prop :=
 e=.ex 2∧∃ t3 B3 o3 o4,t≤t3∧σ=⟨t3,bH g B3 (it (clT ap x y) 64 S2) K E++[some (.arr vd 39 dc),some (.arr vx 85 (Qb x)),o3,o4]⟩∧Qd fr 0=.ptr 7 g.b 0∧Qd fr 1=.int .i64 id∧Qd fr 6=.ptr 12 vd 0∧Qd fr 7=.ptr 13 vx 0∧Qd fr 18=.sl 10 E.v 0 1 E.l.length none∧Qd fr 19=.int .i64 E.l.length∧Qd fr 20=.int .i64 ((i:Nat):Int)
variable {σ:H} {dc:List V} {ap:Int}
theorem QAH (hT:Qe P tab) {id:Int} (nx:Nb S2.gs.length x) (ny:Nb S2.gs.length y) (r:Rd I S2 128 0) (ha:lit S2.gs.length ap) (hk:k<64)
 (g1:Goes I (2 * k) 0 S2 (it (clT ap x y) k S2)) (hJ:clJ g t K E id ap x y S2 dc i vd vx k fr σ) :
 W P G 104 5 wz fr σ (Qbb (fun fr σ=>∃ fr' σ',Shift G 104 5 fr σ fr' σ'∧clJ g t K E id ap x y S2 dc i vd vx (k+1) fr' σ') (clE g t K E id ap x y S2 dc i vd vx)):=by
 obtain ⟨mo,vy,t3,B3,ht,rfl,f0,f1,f6,f7,f18,f19,f20,f12,f13,f67⟩:=hJ
 have hki:(k:Int)<64:=by omega
 have hk0:(0:Int)≤(k:Int):=by omega
 have gx:=nx.lts hk
 have gy:=ny.lts hk
 have hw:=w_k hk
 have wx:=wng (r.sm (nx.all k hk))
 have wy:=wng (r.sm (ny.all k hk))
 have hcl:=g1.cl
 have hcr:=r.cl
 have e1:it (clT ap x y) (k+1) S2=clT ap x y (it (clT ap x y) k S2) k:=rfl
 unfold clJ
 rw [e1]
 generalize it (clT ap x y) k S2=S3 at *
 have hA1:=fun t B ex=>x_add (P:=P) (G:=G) (g:=g) (K:=K) (E:=E) (S:=S3) hT [ap,-gi x k,gi y k] (by omega) t B ex
 have hA2:=fun t B ex=>x_add (P:=P) (G:=G) (g:=g) (K:=K) (E:=E) (S:=⟨S3.gs,S3.cs++[[ap,-gi x k,gi y k]]⟩) hT [ap,gi x k,-gi y k] (by simp; omega) t B ex
 simp only [trw,List.map_cons,List.map_nil] at hA1 hA2
 refine Qh [(0,.ptr 7 g.b 0),(1,.int .i64 id),(6,.ptr 12 vd 0),(7,.ptr 13 vx 0),(18,.sl 10 E.v 0 1 E.l.length none),(19,.int .i64 E.l.length),(20,.int .i64 ((i:Nat):Int)),(12,.int .i64 ap),(13,.ptr 15 vy 0),(67,.int .i64 ((k:Nat):Int))] ⟨f0,f1,f6,f7,f18,f19,f20,f12,f13,f67,trivial⟩  1000 ?_
 simp -implicitDefEqProofs (disch:=omega) only [go_sem,↓reduceIte,reduceCtorEq,rA,rq,rL,x13,x15,lC,lN,cA,nA,true_implies,true_and,and_true,hki,hk0,Int.toNat_natCast,gx,gy,QG nx.len,QG ny.len,wx]
 refine call hT Qk (hA1 _ _ _) 1000 fun v σ hv=>?_
 obtain ⟨rfl,t4,B4,ht4,rfl⟩:=hv
 simp -implicitDefEqProofs (disch:=omega) only [go_sem,↓reduceIte,reduceCtorEq,rA,rq,rL,x13,x15,lC,lN,cA,nA,true_implies,true_and,and_true,hk0,Int.toNat_natCast,gx,gy,QG nx.len,QG ny.len,wy]
 refine call hT Qk (hA2 _ _ _) 1000 fun v σ hv=>?_
 obtain ⟨rfl,t5,B5,ht5,rfl⟩:=hv
 simp -implicitDefEqProofs (disch:=omega) only [go_sem,↓reduceIte,reduceCtorEq,rq,hw]
 refine ⟨_,_,Shift.refl _ _ _ _,mo,vy,t5,B5,by omega,rfl,?_⟩
 simp -implicitDefEqProofs (disch:=omega) only [go_sem,↓reduceIte,reduceCtorEq,rq]
theorem QL4 {id:Int} (hk:k=64) (hJ:clJ g t K E id ap x y S2 dc i vd vx k fr σ) :
 W P G 104 5 wz fr σ (Qbb (fun _ _=>False) (clE g t K E id ap x y S2 dc i vd vx)):=by
 obtain ⟨mo,vy,t3,B3,ht,rfl,f0,f1,f6,f7,f18,f19,f20,f12,f13,f67⟩:=hJ
 have hki:¬ (k:Int)<64:=by omega
 rw [hk]
 unfold clE
 refine Qh [(0,.ptr 7 g.b 0),(1,.int .i64 id),(6,.ptr 12 vd 0),(7,.ptr 13 vx 0),(18,.sl 10 E.v 0 1 E.l.length none),(19,.int .i64 E.l.length),(20,.int .i64 ((i:Nat):Int)),(12,.int .i64 ap),(13,.ptr 15 vy 0),(67,.int .i64 ((k:Nat):Int))] ⟨f0,f1,f6,f7,f18,f19,f20,f12,f13,f67,trivial⟩  1000 ?_
 simp -implicitDefEqProofs (disch:=omega) only [go_sem,↓reduceIte,reduceCtorEq,rq,hki]
 exact ⟨t3,B3,_,_,ht,rfl,rfl⟩
theorem k_cell (hT:Qe P tab) {val:Int→Int} {id:Int} (cx:Ctx I g.L val) (h:Kn I g.L val S K E.l) (hid:kL K id=some x) (h3:(nd g.L id).kind=3) (hr:Rd I S (576 * E.l.length) (128 * E.l.length)) (hel:E.l.length≤1000000) :
 C P G 5 Qab [.ptr 7 g.b 0,.int .i64 id,.agg (nd g.L id).cells,.agg (Qb x)] ⟨t,bH g B S K E⟩ fun v σ=>v=.tup []∧∃ t' B' e',t≤t'∧σ=⟨t',bH g B' (QcH g.L K E.l (nd g.L id) x S) K ⟨e',E.l++[id]⟩⟩:=by
 obtain ⟨hr0,hxn,-⟩:=h.kn id x hid
 have hel64:¬ (9223372036854775807:Int)<(E.l.length:Int)+1:=by omega
 have hids:(kL K id).isSome=true:=by rw [hid]; rfl
 refine Qj 12 (by decide) (Qo hT QbG (by simp [YV]) (Qm 1000 ?_))
 simp -implicitDefEqProofs (disch:=omega) only [go_sem,↓reduceIte,reduceCtorEq,rA,rq,rL,b_7,Q8,QK,X0,Nd.cells,lC,lN,cA,nA,true_implies,and_true,Xl]
 refine Yn E.l (fun i fr σ=>∃ vd vx t' B',t≤t'∧σ=⟨t',bH g B' (QcH g.L K (E.l.take i) (nd g.L id) x S) K E++[some (.arr vd 39 (nd g.L id).cells),some (.arr vx 85 (Qb x))]⟩∧Qd fr 0=.ptr 7 g.b 0∧Qd fr 1=.int .i64 id∧Qd fr 6=.ptr 12 vd 0∧Qd fr 7=.ptr 13 vx 0∧Qd fr 18=.sl 10 E.v 0 1 E.l.length none∧Qd fr 19=.int .i64 E.l.length∧Qd fr 20=.int .i64 ((i:Nat):Int))
  (fun e fr σ=>e=.ex 0∧∃ t' B' o1 o2,t≤t'∧σ=⟨t',bH g B' (QcH g.L K E.l (nd g.L id) x S) K E++[o1,o2]⟩∧Qd fr 0=.ptr 7 g.b 0∧Qd fr 1=.int .i64 id) ⟨t,t+1,t+1+1,B,by omega,rfl,by simp -implicitDefEqProofs (disch:=omega) only [go_sem,↓reduceIte],by simp -implicitDefEqProofs (disch:=omega) only [go_sem,↓reduceIte,reduceCtorEq],by simp -implicitDefEqProofs (disch:=omega) only [go_sem,↓reduceIte,reduceCtorEq,rq],by simp -implicitDefEqProofs (disch:=omega) only [go_sem,↓reduceIte,reduceCtorEq,rq],by simp -implicitDefEqProofs (disch:=omega) only [go_sem,↓reduceIte,reduceCtorEq,rq],by simp -implicitDefEqProofs (disch:=omega) only [go_sem,↓reduceIte,reduceCtorEq,rq],by simp -implicitDefEqProofs (disch:=omega) only [go_sem,↓reduceIte,reduceCtorEq,rq]; rfl⟩ (fun i o ho fr σ hJ=>?_) (fun i hi fr σ hJ=>?_) (fun e fr σ hE=>?_)
 ·obtain ⟨vd,vx,t',B',ht,rfl,f0,f1,f6,f7,f18,f19,f20⟩:=hJ
  have hlt:=(List.getElem?_eq_some_iff.1 ho).1
  have hom:=List.mem_of_getElem? ho
  have hki:(i:Int)<E.l.length:=by omega
  have hk0:(0:Int)≤(i:Int):=by omega
  have hw:IntKind.i64.wrap ((i:Int)+1)=((i+1:Nat):Int):=by rw [wrap_i64 (by omega) (by omega)]; omega
  have go:=QzT ho
  have htk:=Quw (L:=g.L) (K:=K) (d:=nd g.L id) (x:=x) (S:=S) ho
  have kxe:kx K id=x:=Qf3 hid
  have gS:=cells_ok cx hids h3 (E.l.take i) S (fun o ho=>List.mem_of_mem_take ho) h
  rw [kxe] at gS
  have hS1:=h.goes gS
  have hln:(E.l.take i).length=i:=by rw [List.length_take]; omega
  rw [hln] at gS
  have r1:Rd I (QcH g.L K (E.l.take i) (nd g.L id) x S) 576 128:=hr.go gS (by omega) (by omega)
  generalize QcH g.L K (E.l.take i) (nd g.L id) x S=S1 at *
  obtain ⟨ko,k3⟩:=h.ce o hom
  obtain ⟨ro,-,-⟩:=h.get ko
  have hN:=fun t B ex=>QoR (P:=P) (G:=G) (g:=g) (S:=S1) (K:=K) (E:=E) hT ro 5 t B ex
  refine Qh [(0,.ptr 7 g.b 0),(1,.int .i64 id),(6,.ptr 12 vd 0),(7,.ptr 13 vx 0),(18,.sl 10 E.v 0 1 E.l.length none),(19,.int .i64 E.l.length),(20,.int .i64 ((i:Nat):Int))] ⟨f0,f1,f6,f7,f18,f19,f20,trivial⟩  1000 ?_
  simp -implicitDefEqProofs (disch:=omega) only [go_sem,↓reduceIte,reduceCtorEq,rA,rq,rL,b_7,b_10,Nd.cells,lM,lC,lN,true_implies,true_and,and_true,hki,hk0,hlt,Int.toNat_natCast,go]
  refine call hT XE (hN _ _ _) 1000 fun v σ hv=>?_
  obtain ⟨rfl,t1,ht1,rfl⟩:=hv
  by_cases hc:(nd g.L o).a=(nd g.L id).a∧(nd g.L o).n=(nd g.L id).n
  ·obtain ⟨y,yn,ym,hy,hyn,hym,nx,ny,nyn,nym,u1,u2,hcl,hcS⟩:=QAI cx hS1 hid h3 hom hc
   have hU:=fun t ex=>QsH (P:=P) (G:=G) (K:=K) (E:=E) (g:=g) hT (r1.less (by omega) (by omega)) nyn nym t B' ex
   obtain ⟨c1,c2⟩:=hc
   simp -implicitDefEqProofs (disch:=omega) only [go_sem,↓reduceIte,reduceCtorEq,rA,rq,rL,rT,ZY,Xr,b_6,b_7,QK,X0,x12,x14,y14,Nd.cells,lC,lN,cA,nA,true_implies,and_true,c1,c2,hy,hyn,hym]
   repeat' with_reducible apply And.intro
   all_goals
    refine call hT XW (hU _ _) 1000 fun v σ hv=>?_
    obtain ⟨rfl,t2,B2,ht2,rfl⟩:=hv
    simp -implicitDefEqProofs (disch:=omega) only [go_sem,↓reduceIte,reduceCtorEq,rA,rq,rL,ZY,Xr,b_6,b_7,QK,X0,x15,y15,lC,lN,cA,nA,true_implies,and_true,hy,QG ny.len,Xl,List.append_nil]
   repeat' with_reducible apply And.intro
   all_goals
    refine XQ 64 (clJ g t K E id (Qv S1 yn ym).2 x y (Qv S1 yn ym).1 (nd g.L id).cells i vd vx) (clE g t K E id (Qv S1 yn ym).2 x y (Qv S1 yn ym).1 (nd g.L id).cells i vd vx) ?_ (fun k hk fr σ hJ=>QAH hT (nx.goes u1) (ny.goes u1) (r1.go u1 (by omega) (by omega)) u2 hk (hcl k (by omega)) hJ) (fun k hk fr σ hJ=>QL4 hk hJ) (fun e fr σ hE=>?_)
   all_goals first
    | refine ⟨_,_,_,_,?_,rfl,by simp -implicitDefEqProofs (disch:=omega) only [go_sem,↓reduceIte],by simp -implicitDefEqProofs (disch:=omega) only [go_sem,↓reduceIte,reduceCtorEq],by simp -implicitDefEqProofs (disch:=omega) only [go_sem,↓reduceIte,reduceCtorEq,rq],by simp -implicitDefEqProofs (disch:=omega) only [go_sem,↓reduceIte,reduceCtorEq,rq],by simp -implicitDefEqProofs (disch:=omega) only [go_sem,↓reduceIte,reduceCtorEq,rq],by simp -implicitDefEqProofs (disch:=omega) only [go_sem,↓reduceIte,reduceCtorEq,rq],by simp -implicitDefEqProofs (disch:=omega) only [go_sem,↓reduceIte,reduceCtorEq,rq],by simp -implicitDefEqProofs (disch:=omega) only [go_sem,↓reduceIte,reduceCtorEq,rq],by simp -implicitDefEqProofs (disch:=omega) only [go_sem,↓reduceIte,reduceCtorEq,rq],by simp -implicitDefEqProofs (disch:=omega) only [go_sem,↓reduceIte,reduceCtorEq,rq]; rfl⟩
      omega
    | skip
   all_goals
    obtain ⟨rfl,t3,B3,o3,o4,ht3,rfl,f0,f1,f6,f7,f18,f19,f20⟩:=hE
    refine Qo2 [(0,.ptr 7 g.b 0),(1,.int .i64 id),(6,.ptr 12 vd 0),(7,.ptr 13 vx 0),(18,.sl 10 E.v 0 1 E.l.length none),(19,.int .i64 E.l.length),(20,.int .i64 ((i:Nat):Int))] ⟨f0,f1,f6,f7,f18,f19,f20,trivial⟩ 1000 ?_
    simp -implicitDefEqProofs (disch:=omega) only [go_sem,↓reduceIte,reduceCtorEq,rq,Nd.cells,hw]
    refine ⟨_,_,Qyb _,vd,vx,t3,B3,ht3,by rw [htk,hcS],?_⟩
    simp -implicitDefEqProofs (disch:=omega) only [go_sem,↓reduceIte,reduceCtorEq,rq]
  ·have htk2:clS g.L K (nd g.L id) x S1 o=S1:=if_neg hc
   rw [htk2] at htk
   by_cases c1:(nd g.L o).a=(nd g.L id).a
   ·have c2:¬ (nd g.L o).n=(nd g.L id).n:=fun e=>hc ⟨c1,e⟩
    simp -implicitDefEqProofs (disch:=omega) only [go_sem,↓reduceIte,reduceCtorEq,rA,rq,rL,rT,ZY,Xr,b_6,b_7,QK,X0,x12,x14,y14,Nd.cells,lC,lN,cA,nA,false_implies,true_implies,and_true,c1,c2,hw]
    refine ⟨_,_,Qyb _,vd,vx,t1+1,B',by omega,by rw [htk],?_⟩
    simp -implicitDefEqProofs (disch:=omega) only [go_sem,↓reduceIte,reduceCtorEq,rq]
   ·simp -implicitDefEqProofs (disch:=omega) only [go_sem,↓reduceIte,reduceCtorEq,rA,rq,rL,rT,ZY,Xr,b_6,b_7,QK,X0,x12,x14,y14,Nd.cells,lC,lN,cA,nA,false_implies,true_implies,and_true,c1,hw]
    refine ⟨_,_,Qyb _,vd,vx,t1+1,B',by omega,by rw [htk],?_⟩
    simp -implicitDefEqProofs (disch:=omega) only [go_sem,↓reduceIte,reduceCtorEq,rq]
 ·obtain ⟨vd,vx,t',B',ht,rfl,f0,f1,f6,f7,f18,f19,f20⟩:=hJ
  rw [hi,List.take_length]
  refine Qh [(0,.ptr 7 g.b 0),(1,.int .i64 id),(6,.ptr 12 vd 0),(7,.ptr 13 vx 0),(18,.sl 10 E.v 0 1 E.l.length none),(19,.int .i64 E.l.length),(20,.int .i64 ((i:Nat):Int))] ⟨f0,f1,f6,f7,f18,f19,f20,trivial⟩  1000 ?_
  simp -implicitDefEqProofs (disch:=omega) only [go_sem,↓reduceIte,reduceCtorEq,rq,hi,Int.lt_irrefl]
  exact ⟨t',B',_,_,ht,rfl,rfl⟩
 ·obtain ⟨rfl,t',B',o1,o2,ht,rfl,f0,f1⟩:=hE
  refine XN [(0,.ptr 7 g.b 0),(1,.int .i64 id)] ⟨f0,f1,trivial⟩ 1000 ?_
  simp -implicitDefEqProofs (disch:=omega) only [go_sem,↓reduceIte,reduceCtorEq,rA,rq,rL,bH,bO,bS,o_7,o_10,o_l0,s_7,s_10,QKY,lM,lA,lC,lN,cA,nA,true_implies,true_and,and_true]
  refine ⟨t'+1,B',t',by omega,rfl,?_⟩
  rw [List.map_append]
  rfl
end
end Go.Proofs.YtoeicjlflmmmcaaGreatDoor
namespace Go.Proofs.YtoeicjlflmmmcaaGreatDoor
open Go Go.Am Go.Bl
set_option maxRecDepth 100000
variable {P:Program} {G:Nat→Option V} {I:Int→Int→Bool} {cap:Nat}
set_option maxHeartbeats 1000000
section
attribute [local go_sem] nFq nT aZ lR zA Option.getD_none Option.getD_some Option.isSome_none Option.isSome_some beq_self_eq_true XB QI5 QI4 Qn3 Qn2 Qn1 Qn0 QnZ QnY QnX QnW QnV QnU QI3 QnT QnS QnR QnQ QnP QnO QuX QuW QI2 QI1 QI0 QIZ QuV QuU QuT decide_false decide_true
variable {t i:Nat} {E:Ev} {K:List (Int × List Int)} {S:St} {B:Bv} {g:Gr}
theorem QMF {f:Nat} {args:List V} {Q Q2:V→H→Prop} {ex:List (Option Ob)}
 (h:C P G 5 f args ⟨t,bH g B S K E⟩ Q) (ha:QU 12 args=true)
 (k:∀ v σ,Q v σ→V.under 12 v=true∧∃ t' B' S' K' E',σ=⟨t',bH g B' S' K' E'⟩∧Q2 v ⟨t',bH g B' S' K' E'++ex⟩):C P G 5 f args ⟨t,bH g B S K E++ex⟩ Q2 :=
 QMG (σB:=⟨t,bH g B S K E++ex⟩) (oS:=bH g B S K E) rfl h QmE (by rw [Q8]; decide) (by rw [Q8]; exact ha) fun v σ hq=>by
  obtain ⟨h1,t',B',S',K',E',rfl,h2⟩:=k v σ hq
  exact ⟨rfl,QmE,h1,h2⟩
theorem x_cell (hT:Qe P tab) {val:Int→Int} {x:List Int} {id:Int} (cx:Ctx I g.L val) (h:Kn I g.L val S K E.l) (hid:kL K id=some x) (h3:(nd g.L id).kind=3) (hr:Rd I S (576 * E.l.length) (128 * E.l.length)) (hel:E.l.length≤1000000) (t:Nat) (B:Bv) (ex:List (Option Ob)) :
 C P G 5 Qab [.ptr 7 g.b 0,.int .i64 id,.agg (nd g.L id).cells,.agg (Qb x)] ⟨t,bH g B S K E++ex⟩ fun v σ=>v=.tup []∧∃ t' B' e',t≤t'∧σ=⟨t',bH g B' (QcH g.L K E.l (nd g.L id) x S) K ⟨e',E.l++[id]⟩++ex⟩ :=
 QMF (k_cell hT cx h hid h3 hr hel) (by simp [QU,V.under,Ys,Nd.cells]) fun v σ ⟨h1,t',B',e',h2,h3⟩=>by
  subst h1
  exact ⟨rfl,t',B',_,_,_,h3,rfl,t',B',e',h2,rfl⟩
variable {fr:Fr}
theorem Qmy {n:Nat} (r:List (Option Ob)):Shift G n 5 fr ⟨t,bH g B S K E++r⟩ fr ⟨t,bH g B S K E⟩ :=
 Shift.drop (Xd 12 (bH g B S K E++r)) (lR _) (by rw [Q8]; omega)
def blJ (g:Gr) (val:Int→Int) (I:Int→Int→Bool) (s:Bs) (t:Nat) (id:Int) (U:List Int) (i:Nat) (fr:Fr) (σ:H):Prop :=
 ∃ t' B' e',t≤t'∧σ=⟨t',bH g B' (bF g.L (U.take i) s).S (bF g.L (U.take i) s).K ⟨e',(bF g.L (U.take i) s).E⟩⟩∧Qd fr 0=.ptr 7 g.b 0∧Qd fr 1=.int .i64 id∧Qd fr 35=.lst 1 (Qb U) false∧Qd fr 36=.int .i64 U.length∧Qd fr 37=.int .i64 ((i:Nat):Int)
def blE (g:Gr) (s:Bs) (t:Nat) (id:Int) (U:List Int) (e:AE) (fr:Fr) (σ:H):Prop :=
 e=.ex 0∧∃ t' B' e',t≤t'∧σ=⟨t',bH g B' (bF g.L U s).S (bF g.L U s).K ⟨e',(bF g.L U s).E⟩⟩∧Qd fr 0=.ptr 7 g.b 0∧Qd fr 1=.int .i64 id
variable {σ:H} {U:List Int} {s:Bs}
theorem QA1 (hT:Qe P tab) {val:Int→Int} (cx:Ctx I g.L val) (hs:BInv I g.L val cap s) {id:Int} (hU:∀ x∈U,0≤x∧x<g.L.length) (hUs:U.Pairwise (·<·)) (hUc:∀ x∈U,∀ p∈pts g.L x,p∈U) (hUl:U.length≤1000000) (hLl:g.L.length≤1000000)
 {u:Int} (hu:U[i]?=some u) (hJ:blJ g val I s t id U i fr σ) :
 W P G 130 5 wA fr σ (Qbb (fun fr σ=>∃ fr' σ',Shift G 130 5 fr σ fr' σ'∧blJ g val I s t id U (i+1) fr' σ') (blE g s t id U)):=by
 obtain ⟨t',B',e',ht,rfl,f0,f1,f35,f36,f37⟩:=hJ
 have hlt:=(List.getElem?_eq_some_iff.1 hu).1
 have hum:=List.mem_of_getElem? hu
 have hki:(i:Int)<U.length:=by omega
 have hk0:(0:Int)≤(i:Int):=by omega
 have hw:IntKind.i64.wrap ((i:Int)+1)=((i+1:Nat):Int):=by rw [wrap_i64 (by omega) (by omega)]; omega
 have gu:=QiF hu
 obtain ⟨h1,-,h3⟩:=QMs cx hs hU hUs hUc i (by omega)
 have hur:=hU u hum
 have hp:∀ p∈pts g.L u,(kL (bF g.L (U.take i) s).K p).isSome=true:=fun p hpm=>h3 p (QcP hUs hu (hUc u hum p hpm) (Qk1 cx.wf hur.1 hur.2 p hpm).2)
 unfold blJ
 rw [Qyz hu]
 generalize bF g.L (U.take i) s=s1 at *
 obtain ⟨S,K,E⟩:=s1
 simp only at hp
 refine Qh [(0,.ptr 7 g.b 0),(1,.int .i64 id),(35,.lst 1 (Qb U) false),(36,.int .i64 U.length),(37,.int .i64 ((i:Nat):Int))] ⟨f0,f1,f35,f36,f37,trivial⟩  1000 ?_
 cases hk:kL K u with
 | some z =>
   have e:bT g.L ⟨S,K,E⟩ u=⟨S,K,E⟩:=by rw [bT,if_pos (by simp only; rw [hk]; rfl)]
   have hzl:=(h1.k.kn u z hk).2.1.len
   rw [e]
   simp -implicitDefEqProofs (disch:=omega) only [go_sem,↓reduceIte,reduceCtorEq,rA,rq,rL,rT,ZY,Xr,a_6,a_7,Q8,x12,y12,lC,lN,cA,nA,true_implies,and_true,hki,hk0,hlt,Int.toNat_natCast,gu,Qi,hk,QG hzl,Xl,hw]
   refine ⟨_,_,Qmy _,t'+1,B',e',by omega,rfl,?_⟩
   simp -implicitDefEqProofs (disch:=omega) only [go_sem,↓reduceIte,reduceCtorEq,rq]
 | none =>
   have hcr:=QwW (f:=fC g.L) hk hur.1 hur.2
   have hgr:=QwW (f:=fG g.L) hk hur.1 hur.2
   have hc1:=h1.c
   have hcap:=h1.hc
   have hg1:=h1.g
   have he1:=h1.e
   simp only at hc1 hg1 he1
   have hfc:fC g.L u=Qlz (nd g.L u).op+576 * g.L.length:=rfl
   have hfg:fG g.L u=24576+128 * g.L.length:=rfl
   have r0:Rd I S (Qlz (nd g.L u).op+576 * g.L.length) (24576+128 * g.L.length):=⟨h1.k.ok,by omega,by omega⟩
   have hN:=fun t B ex=>QoR (P:=P) (G:=G) (g:=g) (S:=S) (K:=K) (E:=⟨e',E⟩) hT hur 5 t B ex
   have hF:=fun t B ex=>QKo (P:=P) (G:=G) (g:=g) (S:=S) (K:=K) (E:=⟨e',E⟩) (id:=u) hT (r0.less (by omega) (by omega)) t B ex
   have hbt:¬ (kL K u).isSome=true:=by rw [hk]; exact Bool.false_ne_true
   have hput:=fun v=>QzN (v:=v) hk
   obtain ⟨b1,b2,b3⟩:=Qys cx h1.k hur hp
   have hbl:=b2.len
   have hkd:=(cx.kd u hur.1 hur.2).1
   simp -implicitDefEqProofs (disch:=omega) only [go_sem,↓reduceIte,reduceCtorEq,rA,rq,rL,rT,ZY,Xr,a_6,a_7,b_7,Q8,x12,y12,lC,lN,cA,nA,true_implies,and_true,hki,hk0,hlt,Int.toNat_natCast,gu,Qi,hk]
   refine call hT XE (hN _ _ _) 1000 fun v σ hv=>?_
   obtain ⟨rfl,t1,ht1,rfl⟩:=hv
   rcases hkd with k1 | k2 | k3 | k4
   ·have e:bT g.L ⟨S,K,E⟩ u=⟨S,K++[(u,Qdq (nd g.L u).n)],E⟩:=by
     rw [bT,if_neg hbt,if_neg (by omega),QaX,if_pos k1]
    rw [e]
    simp -implicitDefEqProofs (disch:=omega) only [go_sem,↓reduceIte,reduceCtorEq,rA,rq,rL,rT,QK,X0,x13,y13,lC,lN,cA,nA,true_implies,and_true,k1,Nd.cells]
    refine Qy hT Zq (Qik hT _) rfl 1000 ?_
    simp -implicitDefEqProofs (disch:=omega) only [go_sem,↓reduceIte,reduceCtorEq,rA,rq,rL,Int.reduceEq,Xr,bs_6,b_6,b_7,x13,x14,y14,lC,lN,nA,false_implies,true_implies,true_and,and_true,QG (QiD _),Qx (QiD _),Xl,hput,hw,List.append_nil]
    refine ⟨_,_,Qmy _,t1+1+1,B',e',by omega,rfl,?_⟩
    simp -implicitDefEqProofs (disch:=omega) only [go_sem,↓reduceIte,reduceCtorEq,rq]
   ·have eb:QaX g.L K S u=XL S u:=by rw [QaX,if_neg (by omega),if_neg (by omega)]
    have e:bT g.L ⟨S,K,E⟩ u=⟨(XL S u).1,K++[(u,(XL S u).2)],E⟩:=by
     rw [bT,if_neg hbt,if_neg (by omega),eb]
    rw [e]
    rw [eb] at hbl
    simp -implicitDefEqProofs (disch:=omega) only [go_sem,↓reduceIte,reduceCtorEq,rA,rq,rL,rT,Int.reduceEq,ZY,Xr,b_6,b_7,QK,X0,x13,y13,lC,lN,cA,nA,false_implies,true_implies,true_and,and_true,k2,Nd.cells]
    refine call hT YN (hF _ _ _) 1000 fun v σ hv=>?_
    obtain ⟨rfl,t2,B2,ht2,rfl⟩:=hv
    simp -implicitDefEqProofs (disch:=omega) only [go_sem,↓reduceIte,reduceCtorEq,rA,rq,rL,Int.reduceEq,Xr,bs_6,b_6,b_7,x13,x14,y14,lC,lN,nA,false_implies,true_implies,true_and,and_true,QG hbl,Qx hbl,Xl,hput,hw,List.append_nil]
    refine ⟨_,_,Qmy _,t2,B2,e',by omega,rfl,?_⟩
    simp -implicitDefEqProofs (disch:=omega) only [go_sem,↓reduceIte,reduceCtorEq,rq]
   ·have eb:QaX g.L K S u=XL S u:=by rw [QaX,if_neg (by omega),if_neg (by omega)]
    have e:bT g.L ⟨S,K,E⟩ u=⟨QcH g.L (K++[(u,(XL S u).2)]) E (nd g.L u) (XL S u).2 (XL S u).1,K++[(u,(XL S u).2)],E++[u]⟩:=by
     rw [bT,if_neg hbt,if_pos k3,eb]
    rw [e]
    rw [eb] at hbl b1 b2 b3
    have K1:=QIg h1.k b1 hur b2 b3 hk hp
    have hE:E.length≤g.L.length:=by omega
    have m1:576 * E.length≤576 * g.L.length:=Nat.mul_le_mul_left _ hE
    have m2:128 * E.length≤128 * g.L.length:=Nat.mul_le_mul_left _ hE
    have hC:=fun t B ex=>x_cell (P:=P) (G:=G) (g:=g) (E:=⟨e',E⟩) hT cx K1 (QjK hk) k3 (r0.go b1 (by simp only; omega) (by simp only; omega)) (by simp only; omega) t B ex
    simp -implicitDefEqProofs (disch:=omega) only [go_sem,↓reduceIte,reduceCtorEq,rA,rq,rL,rT,Int.reduceEq,ZY,Xr,b_6,b_7,QK,X0,x13,y13,lC,lN,cA,nA,false_implies,true_implies,true_and,and_true,k3,Nd.cells]
    refine call hT YN (hF _ _ _) 1000 fun v σ hv=>?_
    obtain ⟨rfl,t2,B2,ht2,rfl⟩:=hv
    simp only [Nd.cells,k3] at hC
    simp -implicitDefEqProofs (disch:=omega) only [go_sem,↓reduceIte,reduceCtorEq,rA,rq,rL,Xr,bs_6,b_6,b_7,x13,x14,y14,lC,lN,nA,false_implies,true_implies,and_true,QG hbl,Qx hbl,Xl,hput,List.append_nil]
    refine call hT QbG (hC _ _ _) 1000 fun v σ hv=>?_
    obtain ⟨rfl,t3,B3,e3,ht3,rfl⟩:=hv
    simp -implicitDefEqProofs (disch:=omega) only [go_sem,↓reduceIte,reduceCtorEq,rq,hw]
    refine ⟨_,_,Qmy _,t3,B3,e3,by omega,rfl,?_⟩
    simp -implicitDefEqProofs (disch:=omega) only [go_sem,↓reduceIte,reduceCtorEq,rq]
   ·obtain ⟨xx,hxx⟩:=Option.isSome_iff_exists.1 (hp _ (QMO k4).1)
    obtain ⟨yy,hyy⟩:=Option.isSome_iff_exists.1 (hp _ (QMO k4).2)
    obtain ⟨-,nxx,-⟩:=h1.k.kn _ xx hxx
    obtain ⟨-,nyy,-⟩:=h1.k.kn _ yy hyy
    have hD:=fun t B ex=>x_does (P:=P) (G:=G) (g:=g) (S:=S) (K:=K) (E:=⟨e',E⟩) (op:=(nd g.L u).op) hT (r0.less (by omega) (by omega)) nxx nyy t B ex
    have eb0:QaX g.L K S u=match Xo S (nd g.L u).op xx yy with | some r=>r | none=>XL S u:=by
     rw [QaX,if_neg (by omega),if_pos k4,Qf3 hxx,Qf3 hyy]
     cases Xo S (nd g.L u).op xx yy <;> rfl
    simp -implicitDefEqProofs (disch:=omega) only [go_sem,↓reduceIte,reduceCtorEq,rA,rq,rL,rT,Int.reduceEq,ZY,Xr,b_6,b_7,QK,X0,x13,y13,lC,lN,cA,nA,false_implies,true_implies,true_and,and_true,k4,Nd.cells,hxx,hyy]
    refine call hT Qu (hD _ _ _) 1000 fun v σ hv=>?_
    obtain ⟨rfl,t2,B2,ht2,rfl⟩:=hv
    cases hd:Xo S (nd g.L u).op xx yy with
    | some r =>
      have eb:QaX g.L K S u=r:=by rw [eb0,hd]
      have e:bT g.L ⟨S,K,E⟩ u=⟨r.1,K++[(u,r.2)],E⟩:=by
       rw [bT,if_neg hbt,if_neg (by omega),eb]
      rw [e]
      rw [eb] at hbl
      simp -implicitDefEqProofs (disch:=omega) only [go_sem,↓reduceIte,reduceCtorEq,rA,rq,rL,rT,Int.reduceEq,Xr,bs_6,b_6,b_7,x13,x14,y14,lC,lN,nA,false_implies,true_implies,true_and,and_true,dV,dS,QG hbl,Qx hbl,Xl,hput,hw,List.append_nil]
      refine ⟨_,_,Qmy _,t2,B2,e',by omega,rfl,?_⟩
      simp -implicitDefEqProofs (disch:=omega) only [go_sem,↓reduceIte,reduceCtorEq,rq]
    | none =>
      have eb:QaX g.L K S u=XL S u:=by rw [eb0,hd]
      have e:bT g.L ⟨S,K,E⟩ u=⟨(XL S u).1,K++[(u,(XL S u).2)],E⟩:=by
       rw [bT,if_neg hbt,if_neg (by omega),eb]
      rw [e]
      rw [eb] at hbl
      simp -implicitDefEqProofs (disch:=omega) only [go_sem,↓reduceIte,reduceCtorEq,rA,rq,rL,rT,x14,y14,lC,lN,cA,nA,and_true,dV,dS,List.append_nil]
      refine call hT YN (hF _ _ _) 1000 fun v σ hv=>?_
      obtain ⟨rfl,t3,B3,ht3,rfl⟩:=hv
      simp -implicitDefEqProofs (disch:=omega) only [go_sem,↓reduceIte,reduceCtorEq,rA,rq,rL,Int.reduceEq,Xr,bs_6,b_6,b_7,x13,x14,y14,lC,lN,nA,false_implies,true_implies,true_and,and_true,QG hbl,Qx hbl,Xl,hput,hw,List.append_nil]
      refine ⟨_,_,Qmy _,t3,B3,e',by omega,rfl,?_⟩
      simp -implicitDefEqProofs (disch:=omega) only [go_sem,↓reduceIte,reduceCtorEq,rq]
theorem QMh {val:Int→Int} {id:Int} (hi:i=U.length) (hJ:blJ g val I s t id U i fr σ) :
 W P G 130 5 wA fr σ (Qbb (fun _ _=>False) (blE g s t id U)):=by
 obtain ⟨t',B',e',ht,rfl,f0,f1,f35,f36,f37⟩:=hJ
 rw [hi,List.take_length]
 unfold blE
 refine Qh [(0,.ptr 7 g.b 0),(1,.int .i64 id),(35,.lst 1 (Qb U) false),(36,.int .i64 U.length),(37,.int .i64 ((i:Nat):Int))] ⟨f0,f1,f35,f36,f37,trivial⟩  1000 ?_
 simp -implicitDefEqProofs (disch:=omega) only [go_sem,↓reduceIte,reduceCtorEq,rq,hi,Int.lt_irrefl]
 first | exact ⟨t',B',e',ht,rfl⟩ | exact ⟨t',B',e',ht,rfl,rfl⟩ | exact ⟨t',B',e',ht,⟨rfl,rfl⟩,rfl⟩
def blB (L:List Nd) (s:Bs) (id:Int):Bs:=if (XP L [id]).any (QgZ L)=true then s else bF L (XP L [id]) s
def blV (L:List Nd) (s:Bs) (id:Int):Bool:=!(XP L [id]).any (QgZ L)&&(kL (bF L (XP L [id]) s).K id).isSome
theorem o_Uses (hT:Qe P tab) (SO:Q1 P) (hL:g.L.length≤1000000) (hwf:gwf g.L) (id:Int) (tight:Bool) (base t:Nat) (B:Bv) :
 C P G base Y2 [.ptr 1 g.v0 0,.lst 1 [.int .i64 id] tight] ⟨t,bH g B S K E⟩ fun v σ=>v=.lst 1 (Qb (XP g.L [id])) false∧∃ t',t≤t'∧σ=⟨t',bH g B S K E⟩:=by
 have:=x_Uses (P:=P) (G:=G) hT SO (g:=g) (S:=S) (K:=K) (E:=E) hL hwf [id] 1 tight (.inl rfl) (by simp) base t B []
 rwa [List.append_nil] at this
theorem QgX (hT:Qe P tab) (SO:Q1 P) {val:Int→Int} (cx:Ctx I g.L val) (hs:BInv I g.L val cap s) (hLl:g.L.length≤1000000) {e:Nat} {id:Int} :
 C P G 5 ZM [.ptr 7 g.b 0,.int .i64 id] ⟨t,bH g B s.S s.K ⟨e,s.E⟩⟩ fun v σ=>v=.bool (blV g.L s id)∧∃ t' B' e',t≤t'∧σ=⟨t',bH g B' (blB g.L s id).S (blB g.L s id).K ⟨e',(blB g.L s id).E⟩⟩:=by
 have hU:=fun tt t=>o_Uses (P:=P) (G:=G) hT SO (g:=g) (S:=s.S) (K:=s.K) (E:=⟨e,s.E⟩) hLl cx.wf id tt 5 t B
 have hUr:∀ x∈XP g.L [id],0≤x∧x<g.L.length:=QaF
 have hUs:(XP g.L [id]).Pairwise (·<·):=QbZ
 have hUc:∀ x∈XP g.L [id],∀ p∈pts g.L x,p∈XP g.L [id]:=fun x hx p hp=>QcB cx.wf hx hp
 have hUl:(XP g.L [id]).length≤1000000:=by have:=QeV g.L.length (XP g.L [id]) QfK QaF; omega
 unfold blV blB
 generalize XP g.L [id]=U at *
 have hA:=fun t=>k_any (P:=P) (G:=G) (g:=g) (B:=B) (S:=s.S) (K:=s.K) (E:=⟨e,s.E⟩) (t:=t) hT hUr hUl
 refine Qj 12 (by decide) (Qo hT Qz (by simp [XB]) (Qm 1000 ?_))
 simp -implicitDefEqProofs (disch:=omega) only [go_sem,↓reduceIte,reduceCtorEq,rA,rq,rL,a_7,lC,lN,cA,nA,true_implies,and_true]
 refine call hT Qa4 (hU _ _) 1000 fun v σ hv=>?_
 obtain ⟨rfl,t1,ht1,rfl⟩:=hv
 simp -implicitDefEqProofs (disch:=omega) only [go_sem,↓reduceIte,reduceCtorEq,rq]
 refine call hT Yb (hA _) 1000 fun v σ hv=>?_
 obtain ⟨rfl,t2,B2,ht2,rfl⟩:=hv
 cases hany:U.any (QgZ g.L) with
 | true =>
   simp -implicitDefEqProofs (disch:=omega) only [go_sem,↓reduceIte,reduceCtorEq,rq,Q8,Qau,true_and]
   exact ⟨t2,B2,e,by omega,rfl,rfl⟩
 | false =>
   obtain ⟨h1,-,h3⟩:=QyB cx hs hUr hUs hUc
   simp -implicitDefEqProofs (disch:=omega) only [go_sem,↓reduceIte,reduceCtorEq,rq,Qi]
   refine Yn U (blJ g val I s t id U) (blE g s t id U) ⟨t2,B2,e,by omega,rfl,by simp -implicitDefEqProofs (disch:=omega) only [go_sem,↓reduceIte],by simp -implicitDefEqProofs (disch:=omega) only [go_sem,↓reduceIte,reduceCtorEq],by simp -implicitDefEqProofs (disch:=omega) only [go_sem,↓reduceIte,reduceCtorEq,rq],by simp -implicitDefEqProofs (disch:=omega) only [go_sem,↓reduceIte,reduceCtorEq,rq],by simp -implicitDefEqProofs (disch:=omega) only [go_sem,↓reduceIte,reduceCtorEq,rq]; rfl⟩ (fun i u hu fr σ hJ=>QA1 hT cx hs hUr hUs hUc hUl hLl hu hJ) (fun i hi fr σ hJ=>QMh hi hJ) (fun e fr σ hE=>?_)
   obtain ⟨rfl,t3,B3,e3,ht3,rfl,f0,f1⟩:=hE
   refine XN [(0,.ptr 7 g.b 0),(1,.int .i64 id)] ⟨f0,f1,trivial⟩ 1000 ?_
   cases hk:kL (bF g.L U s).K id with
   | none =>
     simp -implicitDefEqProofs (disch:=omega) only [go_sem,↓reduceIte,reduceCtorEq,rA,rq,rL,rT,ZY,Xr,a_6,a_7,Q8,QK,Qag,x12,y12,lC,lN,cA,nA,true_implies,true_and,and_true,hk]
     exact ⟨t3+1,B3,e3,by omega,rfl,rfl⟩
   | some z =>
     have hzl:=(h1.k.kn id z hk).2.1.len
     simp -implicitDefEqProofs (disch:=omega) only [go_sem,↓reduceIte,reduceCtorEq,rA,rq,rL,rT,ZY,Xr,a_6,a_7,b_7,Q8,QK,Qag,x12,y12,lC,lN,nA,true_implies,true_and,and_true,hk,QG hzl,Xl]
     exact ⟨t3+1,B3,e3,by omega,rfl,rfl⟩
end
section
attribute [local go_sem] nFq nT cA lC lN nA aZ lR Nat.mul_one Nat.succ_ne_zero zA Option.getD_some a_6 a_7 and_true Q8 Qau X0 QK Xn QJ7 QJ6 QJ5 QJ4 QJ3 Q5 QJV QJU QJT QJS QJR QJQ QJP Xg QJ2 QJ1 QJ0 QJZ QJY QJX QJW false_implies Xr ZY QT Qy2 Qy1 Qy0 QyZ true_and true_implies x12 y12
theorem Qre (x:List Int):((Qb x).map V.cells).flatten=Qb x:=by
 induction x with
 | nil=>rfl
 | cons a l ih=>show ((V.int .i64 a).cells::(Qb l).map V.cells).flatten=_; rw [List.flatten_cons,ih]; rfl
variable {t e:Nat} {B:Bv} {g:Gr}
theorem QAh (hT:Qe P tab) {S:St} {K:List (Int × List Int)} {E:Ev} {w:Nat} {x:List Int} (hx:x.length=64) :
 C P G 5 XX [.sl 12 w 0 1 64 (some 64)] ⟨t,bH g B S K E++[some (.arr w 85 (Qb x))]⟩ fun v σ=>∃ t' u,t≤t'∧v=.sl 13 u 0 1 64 none∧σ=⟨t',bH g B S K E++[some (.arr w 85 (Qb x)),some (.arr u 3 (Qb x))]⟩:=by
 refine Qo hT QP (by simp [QT]) (Qm 1000 ?_)
 simp -implicitDefEqProofs (disch:=omega) only [go_sem,↓reduceIte,reduceCtorEq,rA,rq,rL,rT,Nat.reduceMul,QG hx,Qx hx]
 exact ⟨t+1,t,by omega,rfl,rfl,rfl⟩
variable {s:Bs} {L:List Nd}
theorem QgM {val:Int→Int} (cx:Ctx I L val) (hs:BInv I L val cap s) (id:Int):BInv I L val cap (blB L s id)∧BUp s (blB L s id):=by
 unfold blB
 split
 ·exact ⟨hs,BUp.refl s⟩
 ·have:=QyB cx hs (U:=XP L [id]) QaF QbZ (fun x hx p hp=>QcB cx.wf hx hp)
  exact ⟨this.1,this.2.1⟩
theorem Qil {id:Int} (h:blV L s id=true):(kL (blB L s id).K id).isSome=true:=by
 unfold blV at h
 unfold blB
 rw [Bool.and_eq_true] at h
 rw [if_neg (by
  intro e
  rw [e] at h
  exact absurd h.1 (by decide))]
 exact h.2
theorem QLt (hT:Qe P tab) (SO:Q1 P) {val:Int→Int} (cx:Ctx I g.L val) (hs:BInv I g.L val cap s) (hLl:g.L.length≤1000000) {id:Int} (hv:blV g.L s id=false) :
 C P G 5 Q4 [.ptr 7 g.b 0,.int .i64 id] ⟨t,bH g B s.S s.K ⟨e,s.E⟩⟩ fun v σ=>v=.tup [.lst 0 [] true,.bool false]∧∃ t' B' e',t≤t'∧σ=⟨t',bH g B' (blB g.L s id).S (blB g.L s id).K ⟨e',(blB g.L s id).E⟩⟩:=by
 have hB:=QgX (P:=P) (G:=G) (g:=g) (t:=t) (B:=B) (e:=e) (id:=id) hT SO cx hs hLl
 refine Qj 12 (by decide) (Qo hT QR (by simp [Xn]) (Qm 1000 ?_))
 simp -implicitDefEqProofs (disch:=omega) only [go_sem,↓reduceIte,reduceCtorEq,rq]
 refine call hT Qz hB 1000 fun v σ hq=>?_
 obtain ⟨rfl,t1,B1,e1,ht1,rfl⟩:=hq
 simp -implicitDefEqProofs (disch:=omega) only [go_sem,↓reduceIte,reduceCtorEq,rq,hv]
 exact ⟨t1,B1,e1,ht1,rfl,rfl⟩
theorem QLu (hT:Qe P tab) (SO:Q1 P) {val:Int→Int} (cx:Ctx I g.L val) (hs:BInv I g.L val cap s) (hLl:g.L.length≤1000000) {id:Int} (hv:blV g.L s id=true) :
 C P G 5 Q4 [.ptr 7 g.b 0,.int .i64 id] ⟨t,bH g B s.S s.K ⟨e,s.E⟩⟩ fun v σ=>∃ u t' B' e' o,t≤t'∧v=.tup [.sl 13 u 0 1 64 none,.bool true]∧σ=⟨t',bH g B' (blB g.L s id).S (blB g.L s id).K ⟨e',(blB g.L s id).E⟩++[o,some (.arr u 3 (Qb (kx (blB g.L s id).K id)))]⟩:=by
 have hB:=QgX (P:=P) (G:=G) (g:=g) (t:=t) (B:=B) (e:=e) (id:=id) hT SO cx hs hLl
 obtain ⟨z,hz⟩:=Option.isSome_iff_exists.1 (Qil hv)
 have hzl:=((QgM cx hs id).1.k.kn id z hz).2.1.len
 rw [Qf3 hz]
 refine Qo hT QR (by simp [Xn]) (Qm 1000 ?_)
 simp -implicitDefEqProofs (disch:=omega) only [go_sem,↓reduceIte,reduceCtorEq,rq]
 refine call hT Qz hB 1000 fun v σ hq=>?_
 obtain ⟨rfl,t1,B1,e1,ht1,rfl⟩:=hq
 simp -implicitDefEqProofs (disch:=omega) only [go_sem,↓reduceIte,reduceCtorEq,rA,rq,rL,rT,Nat.reduceSub,hv,hz,QG hzl,Xl,List.append_nil]
 refine call hT QP (QAh hT hzl) 1000 fun v σ hq=>?_
 obtain ⟨t2,u,ht2,rfl,rfl⟩:=hq
 simp -implicitDefEqProofs (disch:=omega) only [go_sem,↓reduceIte,reduceCtorEq,rq]
 exact ⟨u,t2,B1,e1,_,by omega,rfl,rfl,rfl⟩
mutual
theorem Qnn {k v j:Nat} {cs:List V} (hj:j≤k):∀ u:V,V.under j u=true→Zw k v cs u=u
 | .ptr n _ _,h=>by
   have:n<j:=by simpa [V.under] using h
   simp only [Zw]; rw [if_neg (by omega)]
 | .sl n _ _ _ _ _,h=>by
   have:n<j:=by simpa [V.under] using h
   simp only [Zw]; rw [if_neg (by omega)]
 | .agg l,h=>by simp only [Zw]; rw [QfU hj l (by simpa [V.under] using h)]
 | .tup l,h=>by simp only [Zw]; rw [QfU hj l (by simpa [V.under] using h)]
 | .fn f a b,h=>by
   simp only [V.under,Bool.and_eq_true] at h
   simp only [Zw]; rw [QfU hj a h.1,QfU hj b h.2]
 | .iface t x,h=>by simp only [Zw]; rw [Qnn hj x (by simpa [V.under] using h)]
 | .int _ _,_=>rfl
 | .bool _,_=>rfl
 | .str _,_=>rfl
 | .lst _ _ _,_=>rfl
 | .ref _ _,_=>rfl
 | .mp _ _,_=>rfl
 | .val _,_=>rfl
 | .any,_=>rfl
theorem QfU {k v j:Nat} {cs:List V} (hj:j≤k):∀ l:List V,QU j l=true→QqK k v cs l=l
 | [],_=>rfl
 | u::l,h=>by
   simp only [QU,Bool.and_eq_true] at h
   simp only [QqK]; rw [Qnn hj u h.1,QfU hj l h.2]
end
variable {cs:List V} {k t e:Nat}
theorem Qxc {v j:Nat} (hj:j≤k) (ob:Ob) (h:ob.under j=true):ob.mapV (Zw k v cs)=ob:=by
 cases ob with
 | arr w T l =>
   have:l.map (Zw k v cs)=l:=by rw [← Qib]; exact QfU hj l h
   simp only [Ob.mapV,this]
 | map w es =>
   have:es.map (fun p=>(p.1,Zw k v cs p.2))=es:=by
    conv=>rhs; rw [← List.map_id es]
    refine List.map_congr_left fun p hp=>?_
    have:=List.all_eq_true.1 h p hp
    simp only [id]
    rw [Qnn hj p.2 this]
   simp only [Ob.mapV,this]
 | it a b c d e=>rfl
variable {E:Ev} {K:List (Int × List Int)} {S:St} {B:Bv} {g:Gr}
theorem QxV {w b:Nat} (hk:12≤k) {ex:List (Option Ob)}:List.take 12 (Q6 (Zw k w cs) b (bH g B S K E++ex))=bH g B S K E:=by
 refine List.ext_getElem? fun m=>?_
 rw [List.getElem?_take]
 split
 ·rename_i hm
  rw [YX,List.getElem?_append_left (by rw [Q8]; exact hm)]
  split
  ·rfl
  ·cases h:(bH g B S K E)[m]? with
   | none=>rfl
   | some x =>
     cases x with
     | none=>rfl
     | some ob=>simp only [Option.map_some]; rw [Qxc hk ob (QbN QmE m ob h)]
 ·rename_i hm
  rw [List.getElem?_eq_none (by rw [Q8]; omega)]
variable {s:Bs}
theorem k_Bits (hT:Qe P tab) (SO:Q1 P) {val:Int→Int} (cx:Ctx I g.L val) (hs:BInv I g.L val cap s) (hLl:g.L.length≤1000000) {id:Int} (hv:blV g.L s id=true) :
 C P G 5 Q4 [.ptr 7 g.b 0,.int .i64 id] ⟨t,bH g B s.S s.K ⟨e,s.E⟩⟩ fun v σ=>v=.tup [.lst 1 (Qb (kx (blB g.L s id).K id)) false,.bool true]∧∃ t' B' e',t≤t'∧σ=⟨t',bH g B' (blB g.L s id).S (blB g.L s id).K ⟨e',(blB g.L s id).E⟩⟩:=by
 obtain ⟨z,hz⟩:=Option.isSome_iff_exists.1 (Qil hv)
 have hzl:=((QgM cx hs id).1.k.kn id z hz).2.1.len
 refine Qj 12 (by decide) (QaT (QLu hT SO cx hs hLl hv) fun v σ hq=>?_)
 obtain ⟨u,t',B',e',o,ht,rfl,rfl⟩:=hq
 rw [Qf3 hz]
 refine .inr ⟨13,u,3,Qb z,by decide,rfl,QL _,?_,?_,t',B',e',ht,?_⟩
 ·simp only [QW,List.length_set,QK]; omega
 ·have:=Qug (k:=13) (w:=u) z
  rw [hzl] at this
  simp only [Zw,QqK] at this ⊢
  rw [this]
 ·have:=QxV (b:=5) (k:=13) (w:=u) (cs:=Qb z) (by omega) (g:=g) (B:=B') (S:=(blB g.L s id).S) (K:=(blB g.L s id).K) (E:=⟨e',(blB g.L s id).E⟩) (ex:=[o,none])
  show H.mk _ (List.take 12 (Q6 (Zw 13 u (Qb z)) 5 ((bH g B' (blB g.L s id).S (blB g.L s id).K ⟨e',(blB g.L s id).E⟩++[o,some (.arr u 3 (Qb z))]).set 13 none)))=_
  rw [y13,this]
variable {x y:List Int} {L:List Nd}
theorem QHU {val:Int→Int} (hs:BInv I L val cap s) (hx:Nb s.S.gs.length x) (hy:Nb s.S.gs.length y) (hc:cap+448≤1000000) :
 BInv I L val (cap+448) ⟨(Qv s.S x y).1,s.K,s.E⟩∧Goes I 448 128 s.S (Qv s.S x y).1:=by
 obtain ⟨a,ta⟩:=ZB (mdl I s.S.gs) x
 obtain ⟨b,tb⟩:=ZB (mdl I s.S.gs) y
 obtain ⟨u1,-,-⟩:=QcZ hs.k.ok hx hy ta tb
 have h1:=u1.cl
 have h2:=u1.gl
 have h3:=hs.c
 have h4:=hs.g
 exact ⟨⟨hs.k.goes u1,by simp only; omega,hc,by simp only; omega,hs.e,hs.kl⟩,u1⟩
theorem BInv.rd {val:Int→Int} (hs:BInv I L val cap s):Rd I s.S 448 128:=⟨hs.k.ok,by have:=hs.c; have:=hs.hc; omega,by have:=hs.g; have:=hs.hc; omega⟩
theorem QAf (hT:Qe P tab) (SO:Q1 P) {val:Int→Int} (cx:Ctx I g.L val) (hs:BInv I g.L val cap s) (hLl:g.L.length≤1000000) {id:Int} (hv:blV g.L s id=false) :
 C P G 5 XJ [.ptr 7 g.b 0,.int .i64 id] ⟨t,bH g B s.S s.K ⟨e,s.E⟩⟩ fun v σ=>v=.tup [.int .i64 0,.bool false]∧∃ t' B' e',t≤t'∧σ=⟨t',bH g B' (blB g.L s id).S (blB g.L s id).K ⟨e',(blB g.L s id).E⟩⟩:=by
 have hB:=QgX (P:=P) (G:=G) (g:=g) (t:=t) (B:=B) (e:=e) (id:=id) hT SO cx hs hLl
 refine Qj 12 (by decide) (Qo hT Xc (by simp [Xg]) (Qm 1000 ?_))
 simp -implicitDefEqProofs (disch:=omega) only [go_sem,↓reduceIte,reduceCtorEq,rq]
 refine call hT Qz hB 1000 fun v σ hq=>?_
 obtain ⟨rfl,t1,B1,e1,ht1,rfl⟩:=hq
 simp -implicitDefEqProofs (disch:=omega) only [go_sem,↓reduceIte,reduceCtorEq,rq,hv]
 exact ⟨t1,B1,e1,ht1,rfl,rfl⟩
theorem Qs2 (hT:Qe P tab) (h:Rd I S 448 128) (hx:Nb S.gs.length x) (hy:Nb S.gs.length y) (t:Nat) (B:Bv) :
 C P G 5 YG [.ptr 7 g.b 0,.agg (Qb x),.agg (Qb y)] ⟨t,bH g B S K E⟩ fun v σ=>v=.int .i64 (Qv S x y).2∧∃ t' B',t≤t'∧σ=⟨t',bH g B' (Qv S x y).1 K E⟩:=Qtg hT h hx hy
theorem QLr (hT:Qe P tab) (SO:Q1 P) {val:Int→Int} (cx:Ctx I g.L val) (hs:BInv I g.L val cap s) (hLl:g.L.length≤1000000) {id:Int} (hv:blV g.L s id=true) :
 C P G 5 XJ [.ptr 7 g.b 0,.int .i64 id] ⟨t,bH g B s.S s.K ⟨e,s.E⟩⟩ fun v σ=>v=.tup [.int .i64 (Qv (blB g.L s id).S (kx (blB g.L s id).K id) (Qdq 0)).2,.bool true]∧∃ t' B' e',t≤t'∧σ=⟨t',bH g B' (Qv (blB g.L s id).S (kx (blB g.L s id).K id) (Qdq 0)).1 (blB g.L s id).K ⟨e',(blB g.L s id).E⟩⟩:=by
 have hB:=QgX (P:=P) (G:=G) (g:=g) (t:=t) (B:=B) (e:=e) (id:=id) hT SO cx hs hLl
 obtain ⟨z,hz⟩:=Option.isSome_iff_exists.1 (Qil hv)
 have h1:=(QgM cx hs id).1
 have hzn:=(h1.k.kn id z hz).2.1
 rw [Qf3 hz]
 have hU:=fun t B e=>Qs2 (P:=P) (G:=G) (g:=g) (K:=(blB g.L s id).K) (E:=⟨e,(blB g.L s id).E⟩) hT h1.rd hzn (QiE h1.k.ok.wf 0) t B
 refine Qj 12 (by decide) (Qo hT Xc (by simp [Xg]) (Qm 1000 ?_))
 simp -implicitDefEqProofs (disch:=omega) only [go_sem,↓reduceIte,reduceCtorEq,rq]
 refine call hT Qz hB 1000 fun v σ hq=>?_
 obtain ⟨rfl,t1,B1,e1,ht1,rfl⟩:=hq
 simp -implicitDefEqProofs (disch:=omega) only [go_sem,↓reduceIte,reduceCtorEq,rA,rq,rL,hv,hz]
 refine Qy hT Zq (Qik hT 0) rfl 1000 ?_
 simp -implicitDefEqProofs (disch:=omega) only [go_sem,↓reduceIte,reduceCtorEq,rq]
 refine call hT XW (hU _ _ _) 1000 fun v σ hq=>?_
 obtain ⟨rfl,t2,B2,ht2,rfl⟩:=hq
 simp -implicitDefEqProofs (disch:=omega) only [go_sem,↓reduceIte,reduceCtorEq,rA,rq]
 exact ⟨t2,B2,e1,by omega,rfl,rfl⟩
theorem QxE (hT:Qe P tab) (SO:Q1 P) {val:Int→Int} (cx:Ctx I g.L val) (hs:BInv I g.L val cap s) (hLl:g.L.length≤1000000) {x y:Int} (hv:blV g.L s x=false) :
 C P G 5 Xq [.ptr 7 g.b 0,.int .i64 x,.int .i64 y] ⟨t,bH g B s.S s.K ⟨e,s.E⟩⟩ fun v σ=>v=.tup [.int .i64 0,.bool false]∧∃ t' B' e',t≤t'∧σ=⟨t',bH g B' (blB g.L s x).S (blB g.L s x).K ⟨e',(blB g.L s x).E⟩⟩:=by
 have hB:=QgX (P:=P) (G:=G) (g:=g) (t:=t) (B:=B) (e:=e) (id:=x) hT SO cx hs hLl
 refine Qj 12 (by decide) (Qo hT QQ (by simp [Q5]) (Qm 1000 ?_))
 simp -implicitDefEqProofs (disch:=omega) only [go_sem,↓reduceIte,reduceCtorEq,rA,rq]
 refine call hT Qz hB 1000 fun v σ hq=>?_
 obtain ⟨rfl,t1,B1,e1,ht1,rfl⟩:=hq
 simp -implicitDefEqProofs (disch:=omega) only [go_sem,↓reduceIte,reduceCtorEq,rq,hv]
 exact ⟨t1,B1,e1,ht1,rfl,rfl⟩
theorem QAg (hT:Qe P tab) (SO:Q1 P) {val:Int→Int} (cx:Ctx I g.L val) (hs:BInv I g.L val cap s) (hLl:g.L.length≤1000000) {x y:Int} (hx:blV g.L s x=true) (hy:blV g.L (blB g.L s x) y=true) :
 C P G 5 Xq [.ptr 7 g.b 0,.int .i64 x,.int .i64 y] ⟨t,bH g B s.S s.K ⟨e,s.E⟩⟩ fun v σ=>∃ r,r=blB g.L (blB g.L s x) y∧v=.tup [.int .i64 (Qv r.S (kx r.K x) (kx r.K y)).2,.bool true]∧∃ t' B' e',t≤t'∧σ=⟨t',bH g B' (Qv r.S (kx r.K x) (kx r.K y)).1 r.K ⟨e',r.E⟩⟩:=by
 obtain ⟨h1,u1⟩:=QgM cx hs x
 obtain ⟨h2,u2⟩:=QgM cx h1 y
 have hBx:=fun t B e=>QgX (P:=P) (G:=G) (g:=g) (t:=t) (B:=B) (e:=e) (id:=x) hT SO cx hs hLl
 have hBy:=fun t B e=>QgX (P:=P) (G:=G) (g:=g) (t:=t) (B:=B) (e:=e) (id:=y) hT SO cx h1 hLl
 have kx1:=u2.some (Qil hx)
 have ky1:=Qil hy
 generalize blB g.L (blB g.L s x) y=r at *
 obtain ⟨zx,hzx⟩:=Option.isSome_iff_exists.1 kx1
 obtain ⟨zy,hzy⟩:=Option.isSome_iff_exists.1 ky1
 have nx:=(h2.k.kn x zx hzx).2.1
 have ny:=(h2.k.kn y zy hzy).2.1
 have hU:=fun t B e=>Qs2 (P:=P) (G:=G) (g:=g) (K:=r.K) (E:=⟨e,r.E⟩) hT h2.rd nx ny t B
 refine Qj 12 (by decide) (Qo hT QQ (by simp [Q5]) (Qm 1000 ?_))
 simp -implicitDefEqProofs (disch:=omega) only [go_sem,↓reduceIte,reduceCtorEq,rA,rq]
 refine call hT Qz (hBx _ _ _) 1000 fun v σ hq=>?_
 obtain ⟨rfl,t1,B1,e1,ht1,rfl⟩:=hq
 simp -implicitDefEqProofs (disch:=omega) only [go_sem,↓reduceIte,reduceCtorEq,rA,rq,hx]
 refine call hT Qz (hBy _ _ _) 1000 fun v σ hq=>?_
 obtain ⟨rfl,t2,B2,e2,ht2,rfl⟩:=hq
 simp -implicitDefEqProofs (disch:=omega) only [go_sem,↓reduceIte,reduceCtorEq,rA,rq,rL,hy,hzx,hzy]
 refine call hT XW (hU _ _ _) 1000 fun v σ hq=>?_
 obtain ⟨rfl,t3,B3,ht3,rfl⟩:=hq
 simp -implicitDefEqProofs (disch:=omega) only [go_sem,↓reduceIte,reduceCtorEq,rA,rq]
 refine ⟨r,rfl,?_⟩
 rw [Qf3 hzx,Qf3 hzy]
 first | exact ⟨rfl,t3,B3,e2,by omega,rfl,rfl⟩ | exact ⟨rfl,t3,B3,e2,by omega,rfl⟩
end
section
attribute [local go_sem] nFq nT aZ lR Nat.one_mul zA Nat.zero_mul Qcm QKe QKd QKc QKb QKa QJ9 QJ8
theorem k_New (hT:Qe P tab) {fmt:Int→List UInt8} {v0 v1 v2 v3 v4 t:Nat} {L:List Nd} :
 C P G 5 QdC [.ptr 1 v0 0] ⟨t,kG fmt v0 v1 v2 v3 v4 L⟩ fun v σ=>∃ m k b n t' B e,t≤t'∧v=.ptr 7 b 0∧σ=⟨t',bH ⟨fmt,v0,v1,v2,v3,v4,m,k,b,n,L⟩ B b0.S [] ⟨e,[]⟩⟩:=by
 refine Qo hT Qan (by simp [Qcm]) (Qm 21 ?_)
 simp -implicitDefEqProofs (disch:=omega) only [go_sem,↓reduceIte,reduceCtorEq,rA,rq,rL,Qrp,Qh7,Qmu,lC,lN,nA,cA]
 refine QX (HShift.shift (HShift.ownAt 3 78 (k:=7) (p:=1) (by omega) rfl rfl)) (Qg 0 ?_)
 refine QX (HShift.shift (HShift.ownAt 1 42 (k:=7) (p:=3) (by omega) rfl rfl)) (Qg 0 ?_)
 refine QX (HShift.shift (HShift.ownAt 1 37 (k:=7) (p:=5) (by omega) rfl rfl)) (Qg 0 ?_)
 refine QX (HShift.shift (HShift.ownAt 1 42 (k:=7) (p:=6) (by omega) rfl rfl)) (Qg 1000 ?_)
 have hA:=QrU (P:=P) (G:=G) hT (g:=⟨fmt,v0,v1,v2,v3,v4,t,t+1,t+1+1,t+1+1+1+1+1+1,L⟩) (B:=⟨t+1+1+1+1+1+1+1,t+1+1+1+1,0⟩) (S:=⟨[⟨1,1,1⟩],[]⟩) (K:=[]) (E:=⟨t+1+1+1+1+1,[]⟩) (t:=t+1+1+1+1+1+1+1+1) [1] (by decide)
 simp -implicitDefEqProofs (disch:=omega) only [go_sem,↓reduceIte,reduceCtorEq,rA,rq,rL,Qh7,Qmu,kG_7,kG_8,kGs_7,QLv,lC,lN,nA,cA,List.set_cons_zero,List.set_cons_succ]
 refine call hT Qk hA 1000 fun v σ hq=>?_
 obtain ⟨rfl,t1,B1,ht1,rfl⟩:=hq
 simp -implicitDefEqProofs (disch:=omega) only [go_sem,↓reduceIte,reduceCtorEq,rq]
 exact ⟨_,_,_,_,t1,B1,_,by omega,rfl,rfl,rfl⟩
end
end Go.Proofs.YtoeicjlflmmmcaaGreatDoor
