/- Contracts: a product. -/
import Derived.Test.YtoeicjlflmmmcaaGreatDoorJ6
import Derived.Test.YtoeicjlflmmmcaaGreatDoorJ2
open Nat renaming reduceEqDiff → rq, reduceAdd → rA, reduceLeDiff → rL, reduceLT → rT, zero_add → zA, le_refl → lR, zero_le → zL, add_zero → aZ
open List renaming length_cons → lC, length_nil → lN, take_succ_cons → tSq, length_append → lA, nil_append → nA, cons_append → cA, append_assoc → aA, take_nil → tN, take_zero → tZ, length_map → lM
open Bool renaming not_false → nFq, not_true → nT
namespace Go.Proofs.YtoeicjlflmmmcaaGreatDoor
open Go Go.Am Go.Bl
set_option maxRecDepth 100000
variable {P:Program} {G:Nat→Option V} {I:Int→Int→Bool}
set_option maxHeartbeats 1000000
section
attribute [local go_sem] nFq aZ lR Nat.mul_one zA beq_self_eq_true Y7 QDO QDN Qvt Qvs Qvr Qvq QDM QDL QDK QDJ QDI QDH QDG QDF decide_false decide_true Q3
def zd (d:Int) (l:List Int):List V:=Qb l++List.replicate (64 - l.length) (.int .i64 d)
variable {l x y:List Int} {d:Int}
theorem zd_len (h:l.length≤64):(zd d l).length=64:=by simp [zd,Qb]; omega
theorem QKn (h:l.length=64):zd d l=Qb l:=by simp [zd,h]
variable {k t:Nat}
theorem zd_put {v:Int} (hl:l.length=k) (h:k<64):List.take k (zd d l)++[.int .i64 v]++List.drop (k+1) (zd d l)=zd d (l++[v]):=by
 subst hl
 unfold zd
 rw [List.take_append_of_le_length (by simp [Qb]),List.take_of_length_le (by simp [Qb]),List.drop_append,List.drop_eq_nil_of_le (by simp [Qb]),nA,Qi,show l.length+1 - l.length=1 by omega,List.drop_replicate]
 simp [Qb]
 omega
theorem num0:Qdq 0=List.replicate 64 (-1):=by decide
theorem zd_num (hk:k≤64):Qb (Qdq 0)=zd (-1) (List.replicate k (-1)):=by
 rw [num0,zd,Qb,Qb,List.map_replicate,List.map_replicate,List.length_replicate,List.replicate_append_replicate]
 congr 1; omega
theorem row_0 {x:List Int} {l:Int} {k:Nat} {S:St}:∀ n,n≤k→fo (Qir x l k) n S=(List.replicate n (-1),S)
 | 0,_=>rfl
 | n+1,h=>by
   rw [fo,row_0 n (by omega),Qir,if_pos (by omega),List.replicate_succ']
theorem QiD (a:Int):(Qdq a).length=64:=by simp [Qdq]
variable {E:Ev} {K:List (Int × List Int)} {S:St} {B:Bv} {g:Gr}
theorem dropX {n:Nat} {fr:Fr} {a b c d e:Option Ob}:Shift G n 5 fr ⟨t,bH g B S K E++[a,b,c,d,e]⟩ fr ⟨t,bH g B S K E++[a,b,c,d]⟩ :=
 Shift.drop (Xd 16 (bH g B S K E++[a,b,c,d,e])) (lR _) (by rw [QK]; omega)
theorem k_mul (hT:Qe P tab) (h:Rd I S 81920 24576) (hx:Nb S.gs.length x) (hy:Nb S.gs.length y) :
 C P G 5 Qas [.ptr 7 g.b 0,.agg (Qb x),.agg (Qb y)] ⟨t,bH g B S K E⟩ fun v σ=>v=.agg (Qb (Qri S x y).2)∧∃ t' B',t≤t'∧σ=⟨t',bH g B' (Qri S x y).1 K E⟩:=by
 obtain ⟨a,ta⟩:=ZB (mdl I S.gs) x
 obtain ⟨b,tb⟩:=ZB (mdl I S.gs) y
 have hz0:(zs []).length=64:=QeC (by simp)
 refine Qj 12 (by decide) (Qo hT Qb3 (by simp [Y7]) (Qm 1000 ?_))
 simp -implicitDefEqProofs (disch:=omega) only [go_sem,↓reduceIte,reduceCtorEq,rA,rq,Q8,QK,X0,lC,lN,cA,nA,and_true,Xl]
 refine Qy hT Zq (Qik hT 0) rfl 1000 ?_
 simp -implicitDefEqProofs (disch:=omega) only [go_sem,↓reduceIte,reduceCtorEq,rA,rq,rL,QK,X0,x15,y15,lC,lN,cA,nA,and_true,Xl,QG (QiD 0)]
 refine XQ 64 (fun k fr σ=>∃ S' o vx vy vz vo t' B' oz,t≤t'∧it (QuN x y) k (S,Qdq 0)=(S',o)∧σ=⟨t',bH g B' S' K E++[some (.arr vx 85 (Qb x)),some (.arr vy 85 (Qb y)),some (.arr vz 85 oz),some (.arr vo 85 (Qb o))]⟩∧oz.length=64∧Qd fr 0=.ptr 7 g.b 0∧Qd fr 4=.ptr 12 vx 0∧Qd fr 5=.ptr 13 vy 0∧Qd fr 6=.ptr 14 vz 0∧Qd fr 7=.ptr 15 vo 0∧Qd fr 12=.int .i64 ((k:Nat):Int))
  (fun e fr σ=>e=.ex 0∧∃ t' B' o1 o2 vz vo oz,t≤t'∧σ=⟨t',bH g B' (Qri S x y).1 K E++[o1,o2,some (.arr vz 85 oz),some (.arr vo 85 (Qb (Qri S x y).2))]⟩∧oz.length=64∧Qd fr 6=.ptr 14 vz 0∧Qd fr 7=.ptr 15 vo 0) ?_ (fun k hk fr σ hJ=>?_) (fun k hk fr σ hJ=>?_) (fun e fr σ hE=>?_)
 ·exact ⟨S,_,t,t+1,t+1+1,t+1+1+1,t+1+1+1+1,B,_,by omega,rfl,rfl,rfl,by simp -implicitDefEqProofs (disch:=omega) only [go_sem,↓reduceIte],by simp -implicitDefEqProofs (disch:=omega) only [go_sem,↓reduceIte,reduceCtorEq,rq],by simp -implicitDefEqProofs (disch:=omega) only [go_sem,↓reduceIte,reduceCtorEq,rq],by simp -implicitDefEqProofs (disch:=omega) only [go_sem,↓reduceIte,reduceCtorEq,rq],by simp -implicitDefEqProofs (disch:=omega) only [go_sem,↓reduceIte,reduceCtorEq,rq],by simp -implicitDefEqProofs (disch:=omega) only [go_sem,↓reduceIte,reduceCtorEq,rq]; rfl⟩
 ·obtain ⟨S',o,vx,vy,vz,vo,t',B',oz,ht,hit,rfl,hoz,f0,f4,f5,f6,f7,f12⟩:=hJ
  have hki:(k:Int)<64:=by omega
  have hk0:(0:Int)≤(k:Int):=by omega
  have gy:=hy.lts hk
  have hw:=w_k hk
  obtain ⟨u1,u2,-⟩:=Qxn h.ok hx hy ta tb k (by omega)
  have hit1:it (QuN x y) (k+1) (S,Qdq 0)=QuN x y (S',o) k:=by rw [it,hit]
  rw [hit] at u1 u2
  simp only at u1 u2
  have r0:Rd I S' 1280 384:=h.go u1 (by omega) (by omega)
  have nx:=hx.goes u1
  have ny:=hy.goes u1
  unfold QuN at hit1
  refine Qh [(0,.ptr 7 g.b 0),(4,.ptr 12 vx 0),(5,.ptr 13 vy 0),(6,.ptr 14 vz 0),(7,.ptr 15 vo 0),(12,.int .i64 ((k:Nat):Int))] ⟨f0,f4,f5,f6,f7,f12,trivial⟩  1000 ?_
  by_cases hz:gi y k=-1
  ·rw [if_pos hz] at hit1
   simp -implicitDefEqProofs (disch:=omega) only [go_sem,↓reduceIte,reduceCtorEq,rq,rL,x13,true_implies,true_and,and_true,hki,hk0,Int.toNat_natCast,gy,hz,QG hy.len,hw]
   refine ⟨_,_,Shift.refl _ _ _ _,_,_,vx,vy,vz,vo,t',B',oz,ht,hit1,rfl,hoz,?_⟩
   simp -implicitDefEqProofs (disch:=omega) only [go_sem,↓reduceIte,reduceCtorEq,rq]
  ·rw [if_neg hz] at hit1
   simp -implicitDefEqProofs (disch:=omega) only [go_sem,↓reduceIte,reduceCtorEq,rq,rL,x13,false_implies,true_implies,true_and,and_true,hki,hk0,Int.toNat_natCast,gy,hz,QG hy.len]
   refine Qy hT Zq (Qik hT 0) rfl 1000 ?_
   simp -implicitDefEqProofs (disch:=omega) only [go_sem,↓reduceIte,reduceCtorEq,rA,rq,rL,QK,X0,x16,y16,lC,lN,cA,nA,and_true,Xl,QG (QiD 0)]
   have hy0:=ny.all k hk
   obtain ⟨a',ta'⟩:=ZB (mdl I S'.gs) x
   have hrow0:fo (Qir x (gi y k) k) k S'=(List.replicate k (-1),S'):=row_0 k (lR _)
   rw [zd_num (show k≤64 by omega)]
   refine XQ (64 - k) (fun j fr σ=>∃ rl S2 vr t2 B2,t≤t2∧fo (Qir x (gi y k) k) (k+j) S'=(rl,S2)∧σ=⟨t2,bH g B2 S2 K E++[some (.arr vx 85 (Qb x)),some (.arr vy 85 (Qb y)),some (.arr vz 85 oz),some (.arr vo 85 (Qb o)),some (.arr vr 85 (zd (-1) rl))]⟩∧Qd fr 0=.ptr 7 g.b 0∧Qd fr 4=.ptr 12 vx 0∧Qd fr 5=.ptr 13 vy 0∧Qd fr 6=.ptr 14 vz 0∧Qd fr 7=.ptr 15 vo 0∧Qd fr 12=.int .i64 ((k:Nat):Int)∧Qd fr 8=.int .i64 ((k:Nat):Int)∧Qd fr 9=.ptr 16 vr 0∧Qd fr 10=.int .i64 (((k+j:Nat):Nat):Int))
    (fun e fr σ=>e=.ex 2∧∃ vr t2 B2,t≤t2∧σ=⟨t2,bH g B2 (QtW S' x (gi y k) k).2 K E++[some (.arr vx 85 (Qb x)),some (.arr vy 85 (Qb y)),some (.arr vz 85 oz),some (.arr vo 85 (Qb o)),some (.arr vr 85 (Qb (QtW S' x (gi y k) k).1))]⟩∧Qd fr 0=.ptr 7 g.b 0∧Qd fr 4=.ptr 12 vx 0∧Qd fr 5=.ptr 13 vy 0∧Qd fr 6=.ptr 14 vz 0∧Qd fr 7=.ptr 15 vo 0∧Qd fr 12=.int .i64 ((k:Nat):Int)∧Qd fr 8=.int .i64 ((k:Nat):Int)∧Qd fr 9=.ptr 16 vr 0) ⟨_,S',t',t'+1,B',by omega,hrow0,rfl,by simp -implicitDefEqProofs (disch:=omega) only [go_sem,↓reduceIte],by simp -implicitDefEqProofs (disch:=omega) only [go_sem,↓reduceIte,reduceCtorEq],by simp -implicitDefEqProofs (disch:=omega) only [go_sem,↓reduceIte,reduceCtorEq,rq],by simp -implicitDefEqProofs (disch:=omega) only [go_sem,↓reduceIte,reduceCtorEq,rq],by simp -implicitDefEqProofs (disch:=omega) only [go_sem,↓reduceIte,reduceCtorEq,rq],by simp -implicitDefEqProofs (disch:=omega) only [go_sem,↓reduceIte,reduceCtorEq,rq],by simp -implicitDefEqProofs (disch:=omega) only [go_sem,↓reduceIte,reduceCtorEq,rq],by simp -implicitDefEqProofs (disch:=omega) only [go_sem,↓reduceIte,reduceCtorEq,rq],by simp -implicitDefEqProofs (disch:=omega) only [go_sem,↓reduceIte,reduceCtorEq,rq]⟩ (fun j hj fr σ hJ=>?_) (fun j hj fr σ hJ=>?_) (fun e fr σ hE=>?_)
   ·obtain ⟨rl,S2,vr,t2,B2,ht2,hro,rfl,f0,f4,f5,f6,f7,f12,f8,f9,f10⟩:=hJ
    obtain ⟨i,hi⟩:∃ i,i=k+j:=⟨_,rfl⟩
    have e1:k+(j+1)=i+1:=by omega
    rw [e1]
    rw [← hi] at hro f10
    obtain ⟨v1,v2⟩:=QsU (k:=k) (l:=gi y k) u1.ok nx hy0 ta' i (by omega)
    have hlr:=Y5 (step:=Qir x (gi y k) k) (s:=S') i
    have hro1:fo (Qir x (gi y k) k) (i+1) S'=(rl++[(Qd3 S2 (gi x j) (gi y k)).1],(Qd3 S2 (gi x j) (gi y k)).2):=by
     rw [fo,hro,Qir,if_neg (by omega),show i - k=j by omega]
    rw [hro] at v1 hlr
    simp only at v1 hlr
    have hii:(i:Int)<64:=by omega
    have hi0:(0:Int)≤(i:Int):=by omega
    have hj0:(0:Int)≤(j:Int):=by omega
    have hjj:(j:Int)<64:=by omega
    have hsub:IntKind.i64.wrap ((i:Int) - (k:Int))=((j:Nat):Int):=by rw [wrap_i64 (by omega) (by omega)]; omega
    have gxj:=hx.lts (show j<64 by omega)
    have hwi:=w_k (show i<64 by omega)
    have hzr:(zd (-1) rl).length=64:=zd_len (by omega)
    have hp:=zd_put (d:=-1) (v:=(Qd3 S2 (gi x j) (gi y k)).1) hlr (by omega)
    have hA:=fun t B ex=>Qy9 (P:=P) (G:=G) (K:=K) (E:=E) (g:=g) hT (r0.go v1 (c':=3) (g':=1) (by omega) (by omega)) (v1.lit (nx.all j (by omega))) (v1.lit hy0) t B ex
    refine Qh [(0,.ptr 7 g.b 0),(4,.ptr 12 vx 0),(5,.ptr 13 vy 0),(6,.ptr 14 vz 0),(7,.ptr 15 vo 0),(12,.int .i64 ((k:Nat):Int)),(8,.int .i64 ((k:Nat):Int)),(9,.ptr 16 vr 0),(10,.int .i64 ((i:Nat):Int))] ⟨f0,f4,f5,f6,f7,f12,f8,f9,f10,trivial⟩ 1000 ?_
    simp -implicitDefEqProofs (disch:=omega) only [go_sem,↓reduceIte,reduceCtorEq,rq,rL,x12,x13,true_implies,true_and,and_true,hii,hj0,hk0,hsub,Int.toNat_natCast,gy,gxj,QG hx.len,QG hy.len]
    refine call hT Xb (hA _ _ _) 1000 fun v σ hv=>?_
    obtain ⟨rfl,t3,B3,ht3,rfl⟩:=hv
    simp -implicitDefEqProofs (disch:=omega) only [go_sem,↓reduceIte,reduceCtorEq,rq,rL,x16,y16,lC,lN,true_and,and_true,hi0,Int.toNat_natCast,hzr,hp,hwi]
    refine ⟨_,_,Shift.refl _ _ _ _,_,_,vr,t3,B3,by omega,hro1,rfl,?_⟩
    simp -implicitDefEqProofs (disch:=omega) only [go_sem,↓reduceIte,reduceCtorEq,rq]
   ·obtain ⟨rl,S2,vr,t2,B2,ht2,hro,rfl,f0,f4,f5,f6,f7,f12,f8,f9,f10⟩:=hJ
    have hkj:k+j=64:=by omega
    rw [hkj] at hro
    have hlr:=Y5 (step:=Qir x (gi y k) k) (s:=S') 64
    rw [hro] at hlr
    rw [QKn (show rl.length=64 from hlr)]
    have hkj2:¬ ((k+j:Nat):Int)<64:=by omega
    unfold QtW
    rw [hro]
    refine Qh [(0,.ptr 7 g.b 0),(4,.ptr 12 vx 0),(5,.ptr 13 vy 0),(6,.ptr 14 vz 0),(7,.ptr 15 vo 0),(12,.int .i64 ((k:Nat):Int)),(8,.int .i64 ((k:Nat):Int)),(9,.ptr 16 vr 0),(10,.int .i64 (((k+j:Nat):Nat):Int))] ⟨f0,f4,f5,f6,f7,f12,f8,f9,f10,trivial⟩ 1000 ?_
    generalize ((k+j:Nat):Int)=q at *
    simp -implicitDefEqProofs (disch:=omega) only [go_sem,↓reduceIte,reduceCtorEq,rq,hkj2]
    exact ⟨vr,t2,B2,ht2,⟨rfl,rfl⟩,rfl⟩
   ·obtain ⟨rfl,vr,t2,B2,ht2,rfl,f0,f4,f5,f6,f7,f12,f8,f9⟩:=hE
    obtain ⟨v1,v2⟩:=QsU (k:=k) (l:=gi y k) u1.ok nx hy0 ta' 64 (by omega)
    have hlr:=Y5 (step:=Qir x (gi y k) k) (s:=S') 64
    have nr:Nb (QtW S' x (gi y k) k).2.gs.length (QtW S' x (gi y k) k).1:=⟨hlr,fun i hi=>(v2 i hi).1⟩
    have v1':Goes I (3 * 64) 64 S' (QtW S' x (gi y k) k).2:=v1
    have hS:=fun t B ex=>Qy8 (P:=P) (G:=G) (K:=K) (E:=E) (g:=g) hT (r0.go v1' (c':=1088) (g':=320) (by omega) (by omega)) (u2.goes v1') nr (QC (YA v1'.ok.wf)) t B ex
    have hls:(Qeb (QtW S' x (gi y k) k).2 o (QtW S' x (gi y k) k).1 (-1)).1.length=64:=Y5 64
    refine XN [(0,.ptr 7 g.b 0),(4,.ptr 12 vx 0),(5,.ptr 13 vy 0),(6,.ptr 14 vz 0),(7,.ptr 15 vo 0),(12,.int .i64 ((k:Nat):Int)),(8,.int .i64 ((k:Nat):Int)),(9,.ptr 16 vr 0)] ⟨f0,f4,f5,f6,f7,f12,f8,f9,trivial⟩ 1000 ?_
    simp -implicitDefEqProofs (disch:=omega) only [go_sem,↓reduceIte,reduceCtorEq,rq,x15,x16,false_implies,and_true,QG u2.len,QG nr.len,Qx u2.len,Qx nr.len]
    refine call hT Xy (hS _ _ _) 1000 fun v σ hv=>?_
    obtain ⟨rfl,t3,B3,ht3,rfl⟩:=hv
    simp -implicitDefEqProofs (disch:=omega) only [go_sem,↓reduceIte,reduceCtorEq,rA,rq,rL,rT,x15,y15,lC,lN,nA,and_true,QG u2.len,QG hls,Zt u2.len,Xl,hw,List.append_nil]
    refine ⟨_,_,dropX,_,_,vx,vy,vz,vo,t3,B3,oz,by omega,hit1,rfl,hoz,?_⟩
    simp -implicitDefEqProofs (disch:=omega) only [go_sem,↓reduceIte,reduceCtorEq,rq]
 ·obtain ⟨S',o,vx,vy,vz,vo,t',B',oz,ht,hit,rfl,hoz,f0,f4,f5,f6,f7,f12⟩:=hJ
  have hki:¬ (k:Int)<64:=by omega
  rw [hk] at hit
  refine Qh [(0,.ptr 7 g.b 0),(4,.ptr 12 vx 0),(5,.ptr 13 vy 0),(6,.ptr 14 vz 0),(7,.ptr 15 vo 0),(12,.int .i64 ((k:Nat):Int))] ⟨f0,f4,f5,f6,f7,f12,trivial⟩  1000 ?_
  simp -implicitDefEqProofs (disch:=omega) only [go_sem,↓reduceIte,reduceCtorEq,rq,hki]
  unfold Qri
  rw [hit]
  exact ⟨t',B',_,_,vz,vo,oz,ht,⟨rfl,rfl⟩,hoz,by simp -implicitDefEqProofs (disch:=omega) only [go_sem],by simp -implicitDefEqProofs (disch:=omega) only [go_sem]⟩
 ·obtain ⟨rfl,t',B',o1,o2,vz,vo,oz,ht,rfl,hoz,f6,f7⟩:=hE
  obtain ⟨-,m2,-⟩:=Qxo h.ok hx hy ta tb
  have hoz':List.drop 64 oz=[]:=List.drop_eq_nil_of_le (by omega)
  refine Qg 1000 ?_
  simp -implicitDefEqProofs (disch:=omega) only [go_sem,↓reduceIte,reduceCtorEq,rA,rq,rL,f6,f7,QK,Qag,x14,x15,y14,lC,lN,nA,false_implies,true_and,and_true,QG m2.len,Qx m2.len,Xl,List.append_nil,hoz,hoz']
  exact ⟨t',B',ht,rfl,rfl⟩
theorem x_mul (hT:Qe P tab) (h:Rd I S 81920 24576) (hx:Nb S.gs.length x) (hy:Nb S.gs.length y) (t:Nat) (B:Bv) (ex:List (Option Ob)) :
 C P G 5 Qas [.ptr 7 g.b 0,.agg (Qb x),.agg (Qb y)] ⟨t,bH g B S K E++ex⟩ fun v σ=>v=.agg (Qb (Qri S x y).2)∧∃ t' B',t≤t'∧σ=⟨t',bH g B' (Qri S x y).1 K E++ex⟩ :=
 QcJ (fun _ _=>k_mul hT h hx hy) (by simp [QU,V.under,Ys]) (by simp [V.under,Ys]) t B ex
end
section
attribute [local go_sem] nFq lR Nat.mul_one zA YC QDn QDm Qvm Qvl Qvk Qvj Qvi Qvh Qvg Qvf Qve Qvd QDl QDk QDj QDi QDh QDg QDf QDe decide_false decide_true ge_iff_le Q3
variable {k t:Nat} {l z x y:List Int}
theorem nx_get (hl:l.length=k) (h:k<z.length):(Qb (l++z.drop k)).length=z.length:=by
 rw [Qi,lA,List.length_drop]; omega
theorem nx_put {v:Int} (hl:l.length=k) (h:k<z.length):List.take k (Qb (l++z.drop k))++[.int .i64 v]++List.drop (k+1) (Qb (l++z.drop k))=Qb ((l++[v])++z.drop (k+1)):=by
 subst hl
 unfold Qb
 rw [List.map_append,List.take_append_of_le_length (by simp),List.take_of_length_le (by simp),List.drop_append,List.drop_eq_nil_of_le (by simp),nA]
 simp only [lM,List.map_append,List.map_cons,List.map_nil,← List.map_drop,List.drop_drop]
 rw [show l.length+(l.length+1 - l.length)=l.length+1 by omega]
variable {E:Ev} {K:List (Int × List Int)} {S:St} {B:Bv} {g:Gr}
theorem dropX4 {n:Nat} {fr:Fr} {a b c d:Option Ob}:Shift G n 5 fr ⟨t,bH g B S K E++[a,b,c,d]⟩ fr ⟨t,bH g B S K E++[a,b,c]⟩ :=
 Shift.drop (Xd 15 (bH g B S K E++[a,b,c,d])) (lR _) (by rw [QK]; omega)
theorem Qt4 {y:List Int} {up:Bool} {fill:Int} {S:St} {x:List Int} (h:Ok I S) (hx:Nb S.gs.length x) (hy:Nb S.gs.length y) (hf:lit S.gs.length fill) :
 ∀ n,n≤6→Goes I (576 * n) (192 * n) S (it (fun s i=>Qiv up fill (gi y i) (2 ^ i) s) n (S,x)).1∧Nb (it (fun s i=>Qiv up fill (gi y i) (2 ^ i) s) n (S,x)).1.gs.length (it (fun s i=>Qiv up fill (gi y i) (2 ^ i) s) n (S,x)).2
 | 0,_=>⟨Goes.refl h _ _,hx⟩
 | n+1,hn=>by
   obtain ⟨h1,h2⟩:=Qt4 (up:=up) h hx hy hf n (by omega)
   simp only [it]
   generalize it (fun s i=>Qiv up fill (gi y i) (2 ^ i) s) n (S,x)=r at *
   obtain ⟨S1,z⟩:=r
   simp only at *
   obtain ⟨m1,m2,-⟩:=Qnc (up:=up) (far:=2 ^ n) h1.ok h2 (h1.lit hf) (h1.lit (hy.all n (by omega)))
   exact ⟨(h1.trans m1).more (by omega) (by omega),m2⟩
variable {fill:Int}
theorem movF {up:Bool} {c:Int} {far:Nat} (h:Ok I S) (hz:Nb S.gs.length z) (hf:lit S.gs.length fill) (hc:lit S.gs.length c) (n:Nat) (hn:n≤64) :
 Goes I (9 * n) (3 * n) S (fo (fun t k=>QcM t c (src z up fill far k) (gi z k)) n S).2:=by
 refine (QxW (step:=fun t k=>QcM t c (src z up fill far k) (gi z k)) (v:=fun k=>if lv (mdl I S.gs) c=true then lv (mdl I S.gs) (src z up fill far k) else lv (mdl I S.gs) (gi z k)) h (fun n hn S1 h1 hp=>?_) n hn).1
 obtain ⟨f1,f2,f3⟩:=Qw0 h1 (Zu hp hc) (Zu hp (QkY (up:=up) (far:=far) hz hf hn)) (Zu hp (hz.all n hn))
 refine ⟨f1,f2,?_⟩
 rw [f3,ZO hp hc,ZO hp (QkY hz hf hn),ZO hp (hz.all n hn)]
theorem QLh (hT:Qe P tab) {up:Bool} (h:Rd I S 3456 1152) (hx:Nb S.gs.length x) (hy:Nb S.gs.length y) (hf:lit S.gs.length fill) :
 C P G 5 ZK [.ptr 7 g.b 0,.agg (Qb x),.agg (Qb y),.bool up,.int .i64 fill] ⟨t,bH g B S K E⟩ fun v σ=>v=.agg (Qb (Qpb S x y up fill).2)∧∃ t' B',t≤t'∧σ=⟨t',bH g B' (Qpb S x y up fill).1 K E⟩:=by
 have hz0:(zs []).length=64:=QeC (by simp)
 refine Qj 12 (by decide) (Qo hT YM (by simp [YC]) (Qm 1000 ?_))
 simp -implicitDefEqProofs (disch:=omega) only [go_sem,↓reduceIte,reduceCtorEq,rA,rq,Q8,QK,X0,lC,lN,cA,nA,and_true,Xl]
 refine XQ 6 (fun s fr σ=>∃ S' z vx vy vz t' B' oz,t≤t'∧it (fun s i=>Qiv up fill (gi y i) (2 ^ i) s) s (S,x)=(S',z)∧σ=⟨t',bH g B' S' K E++[some (.arr vx 85 (Qb z)),some (.arr vy 85 (Qb y)),some (.arr vz 85 oz)]⟩∧oz.length=64∧Qd fr 0=.ptr 7 g.b 0∧Qd fr 3=.bool up∧Qd fr 4=.int .i64 fill∧Qd fr 6=.ptr 12 vx 0∧Qd fr 7=.ptr 13 vy 0∧Qd fr 10=.ptr 14 vz 0∧Qd fr 17=.int .i64 ((s:Nat):Int))
  (fun e fr σ=>e=.ex 0∧∃ t' B' vx o2 vz oz,t≤t'∧σ=⟨t',bH g B' (Qpb S x y up fill).1 K E++[some (.arr vx 85 (Qb (Qpb S x y up fill).2)),o2,some (.arr vz 85 oz)]⟩∧oz.length=64∧Qd fr 6=.ptr 12 vx 0∧Qd fr 10=.ptr 14 vz 0) ?_ (fun s hs fr σ hJ=>?_) (fun s hs fr σ hJ=>?_) (fun e fr σ hE=>?_)
 ·exact ⟨S,_,t,t+1,t+1+1,t+1+1+1,B,_,by omega,rfl,rfl,rfl,by simp -implicitDefEqProofs (disch:=omega) only [go_sem,↓reduceIte],by simp -implicitDefEqProofs (disch:=omega) only [go_sem,↓reduceIte,reduceCtorEq,rq],by simp -implicitDefEqProofs (disch:=omega) only [go_sem,↓reduceIte,reduceCtorEq,rq],by simp -implicitDefEqProofs (disch:=omega) only [go_sem,↓reduceIte,reduceCtorEq,rq],by simp -implicitDefEqProofs (disch:=omega) only [go_sem,↓reduceIte,reduceCtorEq,rq],by simp -implicitDefEqProofs (disch:=omega) only [go_sem,↓reduceIte,reduceCtorEq,rq],by simp -implicitDefEqProofs (disch:=omega) only [go_sem,↓reduceIte,reduceCtorEq,rq]; rfl⟩
 ·obtain ⟨S',z,vx,vy,vz,t',B',oz,ht,hit,rfl,hoz,f0,f3,f4,f6,f7,f10,f17⟩:=hJ
  have hsi:(s:Int)<6:=by omega
  have hs0:(0:Int)≤(s:Int):=by omega
  have hs64:(s:Int)<64:=by omega
  have gy:=hy.lts (show s<64 by omega)
  have hws:=w_k (show s<64 by omega)
  obtain ⟨u1,u2⟩:=Qt4 (up:=up) h.ok hx hy hf s (by omega)
  have hit1:it (fun s i=>Qiv up fill (gi y i) (2 ^ i) s) (s+1) (S,x)=Qiv up fill (gi y s) (2 ^ s) (S',z):=by rw [it,hit]
  rw [hit] at u1 u2
  simp only at u1 u2
  have r0:Rd I S' 576 192:=h.go u1 (by omega) (by omega)
  have nf:=u1.lit hf
  have nc:=u1.lit (hy.all s (by omega))
  have hpw:2 ^ s≤32:=Nat.pow_le_pow_right (n:=2) (by omega) (show s≤5 by omega)
  obtain ⟨far,hfar⟩:∃ far:Nat,far=2 ^ s:=⟨_,rfl⟩
  rw [← hfar] at hpw hit1
  have hshl:IntKind.i64.wrap (1 * 2 ^ min s 64)=(far:Int):=by
   rw [Nat.min_eq_left (by omega),Int.one_mul,← QfP,← hfar]
   exact wrap_i64 (by omega) (by omega)
  have hshl2:IntKind.i64.wrap (2 ^ min s 64)=(far:Int):=by rw [← hshl,Int.one_mul]
  refine Qh [(0,.ptr 7 g.b 0),(3,.bool up),(4,.int .i64 fill),(6,.ptr 12 vx 0),(7,.ptr 13 vy 0),(10,.ptr 14 vz 0),(17,.int .i64 ((s:Nat):Int))] ⟨f0,f3,f4,f6,f7,f10,f17,trivial⟩  1000 ?_
  simp -implicitDefEqProofs (disch:=omega) only [go_sem,↓reduceIte,reduceCtorEq,rA,rq,rL,QK,X0,x12,x15,y15,lC,lN,cA,nA,false_implies,and_true,hsi,hs0,Int.toNat_natCast,hshl,QG u2.len,Qx u2.len,Xl]
  refine XQ 64 (fun k fr σ=>∃ l S2 vn t2 B2,t≤t2∧fo (fun t k=>QcM t (gi y s) (src z up fill far k) (gi z k)) k S'=(l,S2)∧σ=⟨t2,bH g B2 S2 K E++[some (.arr vx 85 (Qb z)),some (.arr vy 85 (Qb y)),some (.arr vz 85 oz),some (.arr vn 85 (Qb (l++z.drop k)))]⟩∧Qd fr 0=.ptr 7 g.b 0∧Qd fr 3=.bool up∧Qd fr 4=.int .i64 fill∧Qd fr 6=.ptr 12 vx 0∧Qd fr 7=.ptr 13 vy 0∧Qd fr 10=.ptr 14 vz 0∧Qd fr 17=.int .i64 ((s:Nat):Int)∧Qd fr 11=.int .i64 ((s:Nat):Int)∧Qd fr 12=.int .i64 ((far:Nat):Int)∧Qd fr 13=.ptr 15 vn 0∧Qd fr 23=.int .i64 ((k:Nat):Int))
   (fun e fr σ=>e=.ex 2∧∃ vn t2 B2,t≤t2∧σ=⟨t2,bH g B2 (Qiv up fill (gi y s) far (S',z)).1 K E++[some (.arr vx 85 (Qb z)),some (.arr vy 85 (Qb y)),some (.arr vz 85 oz),some (.arr vn 85 (Qb (Qiv up fill (gi y s) far (S',z)).2))]⟩∧Qd fr 0=.ptr 7 g.b 0∧Qd fr 3=.bool up∧Qd fr 4=.int .i64 fill∧Qd fr 6=.ptr 12 vx 0∧Qd fr 7=.ptr 13 vy 0∧Qd fr 10=.ptr 14 vz 0∧Qd fr 17=.int .i64 ((s:Nat):Int)∧Qd fr 11=.int .i64 ((s:Nat):Int)∧Qd fr 12=.int .i64 ((far:Nat):Int)∧Qd fr 13=.ptr 15 vn 0) ⟨[],S',t',t'+1,B',by omega,rfl,rfl,by simp -implicitDefEqProofs (disch:=omega) only [go_sem,↓reduceIte],by simp -implicitDefEqProofs (disch:=omega) only [go_sem,↓reduceIte,reduceCtorEq],by simp -implicitDefEqProofs (disch:=omega) only [go_sem,↓reduceIte,reduceCtorEq,rq],by simp -implicitDefEqProofs (disch:=omega) only [go_sem,↓reduceIte,reduceCtorEq,rq],by simp -implicitDefEqProofs (disch:=omega) only [go_sem,↓reduceIte,reduceCtorEq,rq],by simp -implicitDefEqProofs (disch:=omega) only [go_sem,↓reduceIte,reduceCtorEq,rq],by simp -implicitDefEqProofs (disch:=omega) only [go_sem,↓reduceIte,reduceCtorEq,rq],by simp -implicitDefEqProofs (disch:=omega) only [go_sem,↓reduceIte,reduceCtorEq,rq],by simp -implicitDefEqProofs (disch:=omega) only [go_sem,↓reduceIte,reduceCtorEq,rq],by simp -implicitDefEqProofs (disch:=omega) only [go_sem,↓reduceIte,reduceCtorEq,rq],by simp -implicitDefEqProofs (disch:=omega) only [go_sem,↓reduceIte,reduceCtorEq,rq]; rfl⟩ (fun k hk fr σ hJ=>?_) (fun k hk fr σ hJ=>?_) (fun e fr σ hE=>?_)
  ·obtain ⟨l,S2,vn,t2,B2,ht2,hfo,rfl,f0,f3,f4,f6,f7,f10,f17,f11,f12,f13,f23⟩:=hJ
   have v1:=movF (up:=up) (far:=far) u1.ok u2 nf nc k (by omega)
   have hll:=Y5 (step:=fun t k=>QcM t (gi y s) (src z up fill far k) (gi z k)) (s:=S') k
   have hfo1:fo (fun t k=>QcM t (gi y s) (src z up fill far k) (gi z k)) (k+1) S'=(l++[(QcM S2 (gi y s) (src z up fill far k) (gi z k)).1],(QcM S2 (gi y s) (src z up fill far k) (gi z k)).2):=by rw [fo,hfo]
   rw [hfo] at v1 hll
   simp only at v1 hll
   have hki:(k:Int)<64:=by omega
   have hk0:(0:Int)≤(k:Int):=by omega
   have hw:=w_k hk
   have gz:=u2.lts hk
   have hzk:=nx_get (z:=z) hll (by rw [u2.len]; exact hk)
   rw [u2.len] at hzk
   have hp:=nx_put (z:=z) (v:=(QcM S2 (gi y s) (src z up fill far k) (gi z k)).1) hll (by rw [u2.len]; exact hk)
   have hA:=fun t B ex=>x_pick (P:=P) (G:=G) (K:=K) (E:=E) (g:=g) hT (r0.go v1 (c':=9) (g':=3) (by omega) (by omega)) (v1.lit nc) (v1.lit (QkY (up:=up) (far:=far) u2 nf hk)) (v1.lit (u2.all k hk)) t B ex
   have hadd:IntKind.i64.wrap ((k:Int)+(far:Int))=(k:Int)+(far:Int):=wrap_i64 (by omega) (by omega)
   have hsub:IntKind.i64.wrap ((k:Int) - (far:Int))=(k:Int) - (far:Int):=wrap_i64 (by omega) (by omega)
   refine Qh [(0,.ptr 7 g.b 0),(3,.bool up),(4,.int .i64 fill),(6,.ptr 12 vx 0),(7,.ptr 13 vy 0),(10,.ptr 14 vz 0),(17,.int .i64 ((s:Nat):Int)),(11,.int .i64 ((s:Nat):Int)),(12,.int .i64 ((far:Nat):Int)),(13,.ptr 15 vn 0),(23,.int .i64 ((k:Nat):Int))] ⟨f0,f3,f4,f6,f7,f10,f17,f11,f12,f13,f23,trivial⟩  1000 ?_
   cases up with
   | true =>
     by_cases hb:far≤k
     ·have hs1:src z true fill far k=gi z (k - far):=by unfold src; rw [if_pos rfl,if_pos hb]
      have q1:(0:Int)≤(k:Int) - (far:Int):=by omega
      have q2:(k:Int) - (far:Int)<64:=by omega
      have q3:((k:Int) - (far:Int)).toNat=k - far:=by omega
      have gzs:=u2.lts (show k - far<64 by omega)
      rw [hs1] at hA hp hfo1
      simp -implicitDefEqProofs (disch:=omega) only [go_sem,↓reduceIte,reduceCtorEq,rA,rq,rL,x12,x13,true_implies,true_and,and_true,hki,hk0,hadd,hsub,q1,q2,q3,gz,gzs,hs0,gy,Int.toNat_natCast,QG hy.len,QG u2.len]
      refine call hT Ye (hA _ _ _) 1000 fun v σ hv=>?_
      obtain ⟨rfl,t3,B3,ht3,rfl⟩:=hv
      simp -implicitDefEqProofs (disch:=omega) only [go_sem,↓reduceIte,reduceCtorEq,rq,rL,x15,y15,lC,lN,true_and,and_true,hk0,Int.toNat_natCast,hzk,hp,hw]
      refine ⟨_,_,Shift.refl _ _ _ _,_,_,vn,t3,B3,by omega,hfo1,rfl,?_⟩
      simp -implicitDefEqProofs (disch:=omega) only [go_sem,↓reduceIte,reduceCtorEq,rq]
     ·have hs1:src z true fill far k=fill:=by unfold src; rw [if_pos rfl,if_neg hb]
      have q1:¬ (0:Int)≤(k:Int) - (far:Int):=by omega
      rw [hs1] at hA hp hfo1
      simp -implicitDefEqProofs (disch:=omega) only [go_sem,↓reduceIte,reduceCtorEq,rq,rL,x12,x13,true_implies,true_and,and_true,hki,hk0,hadd,hsub,q1,gz,hs0,gy,Int.toNat_natCast,QG hy.len,QG u2.len]
      refine call hT Ye (hA _ _ _) 1000 fun v σ hv=>?_
      obtain ⟨rfl,t3,B3,ht3,rfl⟩:=hv
      simp -implicitDefEqProofs (disch:=omega) only [go_sem,↓reduceIte,reduceCtorEq,rq,rL,x15,y15,lC,lN,true_and,and_true,hk0,Int.toNat_natCast,hzk,hp,hw]
      refine ⟨_,_,Shift.refl _ _ _ _,_,_,vn,t3,B3,by omega,hfo1,rfl,?_⟩
      simp -implicitDefEqProofs (disch:=omega) only [go_sem,↓reduceIte,reduceCtorEq,rq]
   | false =>
     have q1:(0:Int)≤(k:Int)+(far:Int):=by omega
     by_cases hb:k+far<64
     ·have hs1:src z false fill far k=gi z (k+far):=by unfold src; rw [if_neg (by decide),if_pos hb]
      have q2:(k:Int)+(far:Int)<64:=by omega
      have q3:((k:Int)+(far:Int)).toNat=k+far:=by omega
      have gzs:=u2.lts hb
      rw [hs1] at hA hp hfo1
      simp -implicitDefEqProofs (disch:=omega) only [go_sem,↓reduceIte,reduceCtorEq,rA,rq,rL,x12,x13,true_implies,true_and,and_true,hki,hk0,hadd,q1,q2,q3,gz,gzs,hs0,gy,Int.toNat_natCast,QG hy.len,QG u2.len]
      refine call hT Ye (hA _ _ _) 1000 fun v σ hv=>?_
      obtain ⟨rfl,t3,B3,ht3,rfl⟩:=hv
      simp -implicitDefEqProofs (disch:=omega) only [go_sem,↓reduceIte,reduceCtorEq,rq,rL,x15,y15,lC,lN,true_and,and_true,hk0,Int.toNat_natCast,hzk,hp,hw]
      refine ⟨_,_,Shift.refl _ _ _ _,_,_,vn,t3,B3,by omega,hfo1,rfl,?_⟩
      simp -implicitDefEqProofs (disch:=omega) only [go_sem,↓reduceIte,reduceCtorEq,rq]
     ·have hs1:src z false fill far k=fill:=by unfold src; rw [if_neg (by decide),if_neg hb]
      have q2:¬ (k:Int)+(far:Int)<64:=by omega
      rw [hs1] at hA hp hfo1
      simp -implicitDefEqProofs (disch:=omega) only [go_sem,↓reduceIte,reduceCtorEq,rA,rq,rL,x12,x13,true_implies,true_and,and_true,hki,hk0,hadd,q1,q2,gz,hs0,gy,Int.toNat_natCast,QG hy.len,QG u2.len]
      refine call hT Ye (hA _ _ _) 1000 fun v σ hv=>?_
      obtain ⟨rfl,t3,B3,ht3,rfl⟩:=hv
      simp -implicitDefEqProofs (disch:=omega) only [go_sem,↓reduceIte,reduceCtorEq,rq,rL,x15,y15,lC,lN,true_and,and_true,hk0,Int.toNat_natCast,hzk,hp,hw]
      refine ⟨_,_,Shift.refl _ _ _ _,_,_,vn,t3,B3,by omega,hfo1,rfl,?_⟩
      simp -implicitDefEqProofs (disch:=omega) only [go_sem,↓reduceIte,reduceCtorEq,rq]
  ·obtain ⟨l,S2,vn,t2,B2,ht2,hfo,rfl,f0,f3,f4,f6,f7,f10,f17,f11,f12,f13,f23⟩:=hJ
   rw [hk] at hfo
   have hki:¬ (k:Int)<64:=by omega
   have hd:l++z.drop k=l:=by rw [List.drop_eq_nil_of_le (by rw [u2.len]; omega),List.append_nil]
   rw [hd]
   unfold Qiv
   rw [hfo]
   refine Qh [(0,.ptr 7 g.b 0),(3,.bool up),(4,.int .i64 fill),(6,.ptr 12 vx 0),(7,.ptr 13 vy 0),(10,.ptr 14 vz 0),(17,.int .i64 ((s:Nat):Int)),(11,.int .i64 ((s:Nat):Int)),(12,.int .i64 ((far:Nat):Int)),(13,.ptr 15 vn 0),(23,.int .i64 ((k:Nat):Int))] ⟨f0,f3,f4,f6,f7,f10,f17,f11,f12,f13,f23,trivial⟩  1000 ?_
   simp -implicitDefEqProofs (disch:=omega) only [go_sem,↓reduceIte,reduceCtorEq,rq,hki]
   exact ⟨vn,t2,B2,ht2,⟨rfl,rfl⟩,rfl⟩
  ·obtain ⟨rfl,vn,t2,B2,ht2,rfl,f0,f3,f4,f6,f7,f10,f17,f11,f12,f13⟩:=hE
   obtain ⟨-,m2,-⟩:=Qnc (up:=up) (far:=far) u1.ok u2 nf nc
   refine XN [(0,.ptr 7 g.b 0),(3,.bool up),(4,.int .i64 fill),(6,.ptr 12 vx 0),(7,.ptr 13 vy 0),(10,.ptr 14 vz 0),(17,.int .i64 ((s:Nat):Int)),(11,.int .i64 ((s:Nat):Int)),(12,.int .i64 ((far:Nat):Int)),(13,.ptr 15 vn 0)] ⟨f0,f3,f4,f6,f7,f10,f17,f11,f12,f13,trivial⟩ 1000 ?_
   simp -implicitDefEqProofs (disch:=omega) only [go_sem,↓reduceIte,reduceCtorEq,rq,rL,x12,x15,y12,nA,false_implies,and_true,QG u2.len,QG m2.len,Qx m2.len,Zt u2.len,Xl,hws,List.append_nil]
   refine ⟨_,_,dropX4,_,_,vx,vy,vz,t2,B2,oz,by omega,hit1,rfl,hoz,?_⟩
   simp -implicitDefEqProofs (disch:=omega) only [go_sem,↓reduceIte,reduceCtorEq,rq]
 ·obtain ⟨S',z,vx,vy,vz,t',B',oz,ht,hit,rfl,hoz,f0,f3,f4,f6,f7,f10,f17⟩:=hJ
  have hsi:¬ (s:Int)<6:=by omega
  rw [hs] at hit
  refine Qh [(0,.ptr 7 g.b 0),(3,.bool up),(4,.int .i64 fill),(6,.ptr 12 vx 0),(7,.ptr 13 vy 0),(10,.ptr 14 vz 0),(17,.int .i64 ((s:Nat):Int))] ⟨f0,f3,f4,f6,f7,f10,f17,trivial⟩  1000 ?_
  simp -implicitDefEqProofs (disch:=omega) only [go_sem,↓reduceIte,reduceCtorEq,rq,hsi]
  unfold Qpb
  rw [hit]
  exact ⟨t',B',vx,_,vz,oz,ht,⟨rfl,rfl⟩,hoz,by simp -implicitDefEqProofs (disch:=omega) only [go_sem],by simp -implicitDefEqProofs (disch:=omega) only [go_sem]⟩
 ·obtain ⟨rfl,t',B',vx,o2,vz,oz,ht,rfl,hoz,f6,f10⟩:=hE
  obtain ⟨-,m2⟩:=Qt4 (up:=up) h.ok hx hy hf 6 (by omega)
  have hm:(Qpb S x y up fill).2.length=64:=m2.len
  have hoz':List.drop 64 oz=[]:=List.drop_eq_nil_of_le (by omega)
  refine Qg 1000 ?_
  simp -implicitDefEqProofs (disch:=omega) only [go_sem,↓reduceIte,reduceCtorEq,rA,rq,rL,f6,f10,QK,Qag,x12,x14,y14,lC,lN,nA,false_implies,true_and,and_true,QG hm,Qx hm,Xl,List.append_nil,hoz,hoz']
  exact ⟨t',B',ht,rfl,rfl⟩
theorem QqZ (hT:Qe P tab) {up:Bool} (h:Rd I S 3456 1152) (hx:Nb S.gs.length x) (hy:Nb S.gs.length y) (hf:lit S.gs.length fill) (t:Nat) (B:Bv) (ex:List (Option Ob)) :
 C P G 5 ZK [.ptr 7 g.b 0,.agg (Qb x),.agg (Qb y),.bool up,.int .i64 fill] ⟨t,bH g B S K E++ex⟩ fun v σ=>v=.agg (Qb (Qpb S x y up fill).2)∧∃ t' B',t≤t'∧σ=⟨t',bH g B' (Qpb S x y up fill).1 K E++ex⟩ :=
 QcJ (fun _ _=>QLh hT h hx hy hf) (by simp [QU,V.under,Ys]) (by simp [V.under,Ys]) t B ex
end
end Go.Proofs.YtoeicjlflmmmcaaGreatDoor
namespace Go.Proofs.YtoeicjlflmmmcaaGreatDoor
open Go Go.Am Go.Bl
set_option maxRecDepth 100000
variable {I:Int→Int→Bool}
set_option maxHeartbeats 1000000
def Xo (S:St) (op:Int) (x y:List Int):Option (St × List Int) :=
 if op=1 then some ((Qeb S x y (-1)).2.1,(Qeb S x y (-1)).1) else
 if op=2 then some ((Qeb S x (QlO y) 1).2.1,(Qeb S x (QlO y) 1).1) else
 if op=3 then some (Qri S x y) else
 if op=8 then some ((QaU Qd3 S x y).2,(QaU Qd3 S x y).1) else
 if op=9 then some ((QaU orS S x y).2,(QaU orS S x y).1) else
 if op=10 then some ((QaU Qd5 S x y).2,(QaU Qd5 S x y).1) else
 if op=11 then some (Qpb S x y true (-1)) else
 if op=12 then some (Qpb S x y false (-1)) else
 if op=13 then some (Qpb S x y false (gi x 63)) else
 if op=14 then some ((Qam S (sgL x) (sgL y)).1,Qml (Qam S (sgL x) (sgL y)).2) else
 if op=15 then some ((Qam S x y).1,Qml (Qam S x y).2) else
 if op=16 then some ((Qv S x y).1,Qml (-(Qv S x y).2)) else
 none
def Qlz (op:Int):Nat:=if op=3 then 81920 else 3456
theorem QyG (b:Int):min (QkC .i64 b 63).toNat 64=(b % 2 ^ 6).toNat:=by
 have e:QkC .i64 b 63=b % 2 ^ 6:=Qr7 .i64 6 b 63 rfl (by decide)
 rw [e]
 have:b % 2 ^ 6<2 ^ 6:=Int.emod_lt_of_pos _ (by decide)
 have h64:(2:Int) ^ 6=64:=rfl
 omega
theorem Qtu (a:Int) (t:Nat):a.fdiv (2 ^ t)=a / 2 ^ t:=Int.fdiv_eq_ediv_of_nonneg _ (Int.le_of_lt (Ya t))
variable {a:Int} {S:St}
theorem QLU {op:Int} {x y:List Int} {b:Int} (h:Ok I S) (hx:Nb S.gs.length x) (hy:Nb S.gs.length y) (tx:Tl (mdl I S.gs) x a) (ty:Tl (mdl I S.gs) y b) (ha:Qll a) (hb:Qll b) {r:St × List Int} (hr:Xo S op x y=some r) :
 Goes I (Qlz op) 24576 S r.1∧Nb r.1.gs.length r.2∧Tl (mdl I r.1.gs) r.2 (doW op a b):=by
 unfold Xo at hr
 unfold doW
 by_cases o1:op=1
 ·rw [if_pos o1] at hr; subst o1; cases hr
  obtain ⟨h1,h2,h3,-⟩:=QoZ h hx hy (QC (YA h.wf)) tx ty (c0:=0) (by rw [h.wf.no]; rfl)
  rw [if_pos rfl]
  exact ⟨h1.more (by decide) (by decide),h2,h3.cg (by rw [Int.add_zero]; exact (Qnz _).symm)⟩
 rw [if_neg o1] at hr; rw [if_neg o1]
 by_cases o2:op=2
 ·rw [if_pos o2] at hr; subst o2; cases hr
  obtain ⟨h1,h2,h3,-⟩:=QoZ h hx (Qm6 hy) (YA h.wf) tx (Qxd hy ty) (c0:=1) (by rw [h.wf.yes]; rfl)
  rw [if_pos rfl]
  exact ⟨h1.more (by decide) (by decide),h2,h3.cg (by rw [show a+(-b - 1)+1=a - b by omega]; exact (Qnz _).symm)⟩
 rw [if_neg o2] at hr; rw [if_neg o2]
 by_cases o3:op=3
 ·rw [if_pos o3] at hr; subst o3; cases hr
  obtain ⟨h1,h2,h3⟩:=Qxo h hx hy tx ty
  rw [if_pos rfl]
  exact ⟨h1.more (by decide) (by decide),h2,h3.cg (Qnz _).symm⟩
 rw [if_neg o3] at hr; rw [if_neg o3]
 have hc:Qlz op=3456:=if_neg o3
 rw [hc]
 by_cases o8:op=8
 ·rw [if_pos o8] at hr; subst o8; cases hr
  obtain ⟨h1,h2,h3⟩:=QrB (v:=fun p q=>p&&q) (fun h' _ _ hx' hy'=>Qdp (I:=I) h' hx' hy') h hx hy tx ty (r:=QkC .i64 a b) fun k hk=>QMo a b hk
  iterate 4 rw [if_neg (by decide)]
  rw [if_pos rfl]
  exact ⟨h1.more (by decide) (by decide),h2,h3⟩
 rw [if_neg o8] at hr
 by_cases o9:op=9
 ·rw [if_pos o9] at hr; subst o9; cases hr
  obtain ⟨h1,h2,h3⟩:=QrB (v:=fun p q=>p || q) (fun h' _ _ hx' hy'=>Qw3 (I:=I) h' hx' hy') h hx hy tx ty (r:=orI .i64 a b) fun k hk=>QIF a b hk
  iterate 5 rw [if_neg (by decide)]
  rw [if_pos rfl]
  exact ⟨h1.more (by decide) (by decide),h2,h3⟩
 rw [if_neg o9] at hr
 by_cases o10:op=10
 ·rw [if_pos o10] at hr; subst o10; cases hr
  obtain ⟨h1,h2,h3⟩:=QrB (v:=fun p q=>p != q) (fun h' _ _ hx' hy'=>Qjs (I:=I) h' hx' hy') h hx hy tx ty (r:=QHP .i64 a b) fun k hk=>QMk a b hk
  iterate 6 rw [if_neg (by decide)]
  rw [if_pos rfl]
  exact ⟨h1.more (by decide) (by decide),h2,h3⟩
 rw [if_neg o10] at hr
 by_cases o11:op=11
 ·rw [if_pos o11] at hr; subst o11; cases hr
  obtain ⟨h1,h2,h3⟩:=QIa h hx hy (QC (YA h.wf)) tx ty h.wf.no 6 (by omega)
  iterate 7 rw [if_neg (by decide)]
  rw [if_pos rfl,QyG]
  exact ⟨h1.more (by decide) (by decide),h2,h3.cg (Qnz _).symm⟩
 rw [if_neg o11] at hr
 by_cases o12:op=12
 ·rw [if_pos o12] at hr; subst o12; cases hr
  have tu:Tl (mdl I S.gs) x (IntKind.u64.wrap a):=tx.cg (cg_wU a).symm
  obtain ⟨h1,h2,h3⟩:=Qnb h hx hy (QC (YA h.wf)) tu ty (fun m hm=>by
   rw [h.wf.no]; unfold Zc; rw [Qzg a hm]; rfl) 6 (by omega)
  iterate 8 rw [if_neg (by decide)]
  rw [if_pos rfl,QyG,Qtu]
  exact ⟨h1.more (by decide) (by decide),h2,h3.cg (Qnz _).symm⟩
 rw [if_neg o12] at hr
 by_cases o13:op=13
 ·rw [if_pos o13] at hr; subst o13; cases hr
  obtain ⟨h1,h2,h3⟩:=Qnb h hx hy (hx.all 63 (by omega)) tx ty (fun m hm=>by
   rw [tx 63 (by omega)]; unfold Zc
   rw [Qtw ha (show 63≤m by omega),Qtw ha (show 63≤63 by omega)]) 6 (by omega)
  iterate 9 rw [if_neg (by decide)]
  rw [if_pos rfl,QyG,Qtu]
  exact ⟨h1.more (by decide) (by decide),h2,h3⟩
 rw [if_neg o13] at hr
 by_cases o14:op=14
 ·rw [if_pos o14] at hr; subst o14; cases hr
  obtain ⟨h1,h2,h3⟩:=QtI h (Qzu hx) (Qzu hy) (sg_tl hx tx) (sg_tl hy ty)
  iterate 10 rw [if_neg (by decide)]
  rw [if_pos rfl]
  refine ⟨h1.more (by decide) (by decide),Qw9 h1.ok.wf h2,?_⟩
  have:=Qw7 (I:=I) h1.ok.wf (l:=(Qam S (sgL x) (sgL y)).2)
  rw [h3] at this
  have e:(if decide (IntKind.u64.wrap (a+9223372036854775808)<IntKind.u64.wrap (b+9223372036854775808))=true then (1:Int) else 0)=if a<b then 1 else 0:=by
   unfold Qll at ha hb
   rw [QbM,QbM]
   by_cases hlt:a<b
   ·rw [if_pos hlt,if_pos (by rw [decide_eq_true_eq]; omega)]
   ·rw [if_neg hlt,if_neg (by rw [decide_eq_true_eq]; omega)]
  rwa [e] at this
 rw [if_neg o14] at hr
 by_cases o15:op=15
 ·rw [if_pos o15] at hr; subst o15; cases hr
  obtain ⟨h1,h2,h3⟩:=QtI h hx hy tx ty
  iterate 11 rw [if_neg (by decide)]
  rw [if_pos rfl]
  refine ⟨h1.more (by decide) (by decide),Qw9 h1.ok.wf h2,?_⟩
  have:=Qw7 (I:=I) h1.ok.wf (l:=(Qam S x y).2)
  rw [h3] at this
  simpa using this
 rw [if_neg o15] at hr
 by_cases o16:op=16
 ·rw [if_pos o16] at hr; subst o16; cases hr
  obtain ⟨h1,h2,h3⟩:=QcZ h hx hy tx ty
  iterate 12 rw [if_neg (by decide)]
  rw [if_pos rfl]
  refine ⟨h1.more (by decide) (by decide),Qw9 h1.ok.wf (QC h2),?_⟩
  have:=Qw7 (I:=I) h1.ok.wf (l:=-(Qv S x y).2)
  rw [Yk h2.1] at this
  have e:cg a b↔a=b:=by unfold cg; unfold Qll at ha hb; omega
  by_cases hab:a=b
  ·rw [if_pos hab]
   rw [h3.2 (e.2 hab)] at this
   exact this
  ·rw [if_neg hab]
   have hn:lv (mdl I (Qv S x y).1.gs) (Qv S x y).2=true:=by
    cases hv:lv (mdl I (Qv S x y).1.gs) (Qv S x y).2 with
    | true=>rfl
    | false=>exact absurd (e.1 (h3.1 hv)) hab
   rw [hn] at this
   exact this
 rw [if_neg o16] at hr
 cases hr
def Qfe (id:Int) (s:St) (k:Nat):Int × St:=((mkG s.gs ⟨0,id,k⟩).1,⟨(mkG s.gs ⟨0,id,k⟩).2.2,s.cs⟩)
def XL (S:St) (id:Int):St × List Int:=((fo (Qfe id) 64 S).2,(fo (Qfe id) 64 S).1)
theorem QAr {id:Int} (h:Ok I S) (hI:∀ k:Nat,k<64→I id k=Zc a k):Goes I 0 64 S (XL S id).1∧Nb (XL S id).1.gs.length (XL S id).2∧Tl (mdl I (XL S id).1.gs) (XL S id).2 a:=by
 refine QxX (c:=0) (g:=1) (step:=Qfe id) (v:=fun k=>Zc a k) h fun n hn S1 h1 _=>?_
 obtain ⟨s1,s2,s3,s3',s4,s5,i,s6,s7,s8⟩:=Qkt h1.wf (g:=⟨0,id,n⟩) (by simp) (fun e=>absurd rfl e) (fun _=>⟨by show (0:Int)≤(n:Int); omega,by show (n:Int)<64; omega⟩)
 have hv:=s1.var (I:=I) s8 s6
 rw [← s7] at hv
 have g:=Qkw h1 s1 s2 s4 [] (n:=0) (by simp) (fun c hc=>by cases hc) (fun c hc=>by cases hc) (fun g' hg hk=>absurd (by rw [QIb hg]) hk)
 rw [List.append_nil] at g
 refine ⟨g,s3,?_⟩
 show lv (mdl I (mkG S1.gs ⟨0,id,n⟩).2.2) (mkG S1.gs ⟨0,id,n⟩).1=_
 rw [hv]
 simp only [if_true]
 exact hI n hn
end Go.Proofs.YtoeicjlflmmmcaaGreatDoor
namespace Go.Proofs.YtoeicjlflmmmcaaGreatDoor
open Go Go.Am Go.Bl
set_option maxRecDepth 100000
variable {P:Program} {G:Nat→Option V} {I:Int→Int→Bool}
set_option maxHeartbeats 1000000
section
attribute [local go_sem] nFq aZ lR Nat.mul_one zA zL YE QC9 QC8 QC7 X9 QD7 QD6 QD5 Qfz QDd QDc QDb QDa
theorem QzF (l:Int):V.int .i64 l::List.drop 1 (Qb (Qdq 0))=Qb (Qml l):=by
 rw [Qml,num0]; rfl
theorem Qk2 (l:Int):(Qml l).length=64:=by rw [Qml,List.length_set,QiD]
theorem QL7 (hT:Qe P tab) (l:Int):Pure P G Qk8 [.int .i64 l] fun v=>v=.agg (Qb (Qml l)):=by
 intro t
 have hz0:(zs []).length=64:=QeC (by simp)
 refine Qj 0 (zL _) (Qo hT Qdt (by simp [Qfz]) (Qm 1000 ?_))
 simp -implicitDefEqProofs (disch:=omega) only [go_sem,↓reduceIte,reduceCtorEq]
 refine Qy hT Zq (Qik hT 0) rfl 1000 ?_
 simp -implicitDefEqProofs (disch:=omega) only [go_sem,↓reduceIte,reduceCtorEq,rA,rq,rL,rT,Int.reduceToNat,Int.reduceLE,QG (QiD 0),Xl,QzF,QG (Qk2 l),Qx (Qk2 l),QL,List.append_nil]
variable {x y:List Int}
theorem sg_put (h:x.length=64):List.take 63 (Qb x)++[.int .i64 (-gi x 63)]++List.drop (63+1) (Qb x)=Qb (sgL x):=by
 unfold sgL Qb
 rw [List.map_set,List.drop_eq_nil_of_le (by simp [h]),List.append_nil]
 refine List.ext_getElem? fun i=>?_
 rw [List.getElem?_append,List.getElem?_set]
 simp [h]
 by_cases h1:i<63
 ·rw [if_pos h1,if_neg (by omega),List.getElem?_take,if_pos h1,List.getElem?_map]
 ·rw [if_neg h1]
  by_cases h2:63=i
  ·subst h2; simp
  ·rw [if_neg h2,List.getElem?_eq_none (by simp; omega),List.getElem?_eq_none (by omega)]; rfl
theorem sg_len (h:x.length=64):(sgL x).length=64:=by rw [sgL,List.length_set,h]
theorem c_sgn (hT:Qe P tab) (hx:x.length=64) (hs:-1000000000≤gi x 63∧gi x 63≤1000000000):Pure P G QaP [.agg (Qb x)] fun v=>v=.agg (Qb (sgL x)):=by
 intro t
 have hz0:(zs []).length=64:=QeC (by simp)
 have hv:IntKind.i64.wrap (0 - gi x 63)=-gi x 63:=by rw [wrap_i64 (by omega) (by omega)]; omega
 have gx:=QH5 (x:=x) (k:=63) (by omega)
 have hp:=sg_put hx
 have hl:=sg_len hx
 refine Qj 0 (zL _) (Qo hT Zf (by simp [X9]) (Qm 1000 ?_))
 simp -implicitDefEqProofs (disch:=omega) only [go_sem,↓reduceIte,reduceCtorEq,rA,rq,rT,Int.reduceToNat,Int.reduceLE,QG hx,gx,hv,hp,Xl,QG hl,Qx hl,QL,List.append_nil]
variable {E:Ev} {K:List (Int × List Int)} {S:St} {g:Gr}
theorem QLq (hT:Qe P tab) {B:Bv} {t:Nat} (h:Rd I S 1088 320) (hx:Nb S.gs.length x) (hy:Nb S.gs.length y) :
 C P G 5 ZN [.ptr 7 g.b 0,.agg (Qb x),.agg (Qb y)] ⟨t,bH g B S K E⟩ fun v σ=>v=.int .i64 (Qam S x y).2∧∃ t' B',t≤t'∧σ=⟨t',bH g B' (Qam S x y).1 K E⟩:=by
 obtain ⟨a,ta⟩:=ZB (mdl I S.gs) x
 obtain ⟨b,tb⟩:=ZB (mdl I S.gs) (QlO y)
 have ny:=Qm6 hy
 obtain ⟨s1,-,-,s4,-⟩:=QoZ h.ok hx ny (YA h.ok.wf) ta tb rfl
 have hN:=c_not (P:=P) (G:=G) hT hy.len (fun k hk=>by have:=h.sm (hy.all k hk); unfold sm at this; omega)
 have hS:=fun t B ex=>Qy8 (P:=P) (G:=G) (K:=K) (E:=E) (g:=g) hT h hx ny (YA h.ok.wf) t B ex
 have hl:(Qeb S x (QlO y) 1).1.length=64:=Y5 64
 have nz:=wng ((h.go (c':=0) (g':=0) s1 (by omega) (by omega)).sm s4)
 have hz0:(zs []).length=64:=QeC (by simp)
 refine Qj 12 (by decide) (Qo hT ZH (by simp [YE]) (Qm 1000 ?_))
 simp -implicitDefEqProofs (disch:=omega) only [go_sem,↓reduceIte,reduceCtorEq,rA,rq,Q8,QK,X0,x12,x13,lC,lN,cA,nA,false_implies,and_true,QG hx.len,QG hy.len,Qx hx.len,Qx hy.len,Xl]
 have hnl:Qc [V.agg (Qb y)]=true:=by simp [Qc,Qf,QL]
 refine ⟨Qy hT Qdu hN hnl 1000 ?_,Qy hT Qdu hN hnl 1000 ?_⟩
 ·simp -implicitDefEqProofs (disch:=omega) only [go_sem,↓reduceIte,reduceCtorEq,rA,rq,QK,X0,lC,lN,cA,nA,and_true]
  refine ⟨call hT Xy (hS _ _ _) 1000 fun v σ hv=>?_,call hT Xy (hS _ _ _) 1000 fun v σ hv=>?_⟩ <;>
  ·obtain ⟨rfl,t1,B1,ht1,rfl⟩:=hv
   simp -implicitDefEqProofs (disch:=omega) only [go_sem,↓reduceIte,reduceCtorEq,rA,rq,rL,rT,QK,X0,Qag,x14,y14,lC,lN,cA,nA,true_and,and_true,QG hl,Xl,nz]
   exact ⟨rfl,_,B1,by omega,rfl,rfl⟩
 ·simp -implicitDefEqProofs (disch:=omega) only [go_sem,↓reduceIte,reduceCtorEq,rq]
  refine call hT Xy (hS _ _ _) 1000 fun v σ hv=>?_
  obtain ⟨rfl,t1,B1,ht1,rfl⟩:=hv
  simp -implicitDefEqProofs (disch:=omega) only [go_sem,↓reduceIte,reduceCtorEq,rA,rq,rL,rT,QK,Qag,x14,y14,lC,lN,nA,true_and,and_true,QG hl,Xl,nz]
  exact ⟨rfl,_,B1,by omega,rfl,rfl⟩
theorem Qwt (hT:Qe P tab) (h:Rd I S 1088 320) (hx:Nb S.gs.length x) (hy:Nb S.gs.length y) (t:Nat) (B:Bv) (ex:List (Option Ob)) :
 C P G 5 ZN [.ptr 7 g.b 0,.agg (Qb x),.agg (Qb y)] ⟨t,bH g B S K E++ex⟩ fun v σ=>v=.int .i64 (Qam S x y).2∧∃ t' B',t≤t'∧σ=⟨t',bH g B' (Qam S x y).1 K E++ex⟩ :=
 QcJ (fun _ _=>QLq hT h hx hy) (by simp [QU,V.under,Ys]) rfl t B ex
theorem Qws (hT:Qe P tab) {ff:Nat} {A:AF} (hff:tab ff=some A) {f:St→Int→Int→Int × St} {vv:Bool→Bool→Bool} {fc fg:Nat}
 (hf:∀ {S:St},Ok I S→∀ {x y:Int},lit S.gs.length x→lit S.gs.length y→Goes I fc fg S (f S x y).2∧lit (f S x y).2.gs.length (f S x y).1∧lv (mdl I (f S x y).2.gs) (f S x y).1=vv (lv (mdl I S.gs) x) (lv (mdl I S.gs) y))
 (hC:∀ {S:St} {x y:Int},Rd I S fc fg→lit S.gs.length x→lit S.gs.length y→∀ t B ex,C P G 5 ff [.ptr 7 g.b 0,.int .i64 x,.int .i64 y] ⟨t,bH g B S K E++ex⟩ fun v σ=>v=.int .i64 (f S x y).1∧∃ t' B',t≤t'∧σ=⟨t',bH g B' (f S x y).2 K E++ex⟩)
 (h:Rd I S (fc * 64) (fg * 64)) (hx:Nb S.gs.length x) (hy:Nb S.gs.length y) (t:Nat) (B:Bv) (ex:List (Option Ob)) :
 C P G 5 Qe7 [.agg (Qb x),.agg (Qb y),.fn (.func ff) [.ptr 7 g.b 0] []] ⟨t,bH g B S K E++ex⟩ fun v σ=>v=.agg (Qb (QaU f S x y).1)∧∃ t' B',t≤t'∧σ=⟨t',bH g B' (QaU f S x y).2 K E++ex⟩ :=
 QcJ (fun _ _=>k_each hT hff hf hC h hx hy) (by simp [QU,V.under,Ys]) (by simp [V.under,Ys]) t B ex
end
end Go.Proofs.YtoeicjlflmmmcaaGreatDoor
