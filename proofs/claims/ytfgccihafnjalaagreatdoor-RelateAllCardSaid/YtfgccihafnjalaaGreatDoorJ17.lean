/- What stands at a world's places. -/
import Derived.Test.YtfgccihafnjalaaGreatDoorJ14
import Derived.Test.YtfgccihafnjalaaGreatDoorJ13
import Derived.Test.YtfgccihafnjalaaGreatDoorJ8
import Derived.Test.YtfgccihafnjalaaGreatDoorJ7
import Derived.Test.YtfgccihafnjalaaGreatDoorJ12
import Derived.Test.YtfgccihafnjalaaGreatDoorJ15
import Derived.Test.YtfgccihafnjalaaGreatDoorJ16
import Derived.Test.YtfgccihafnjalaaGreatDoorJ5
import Derived.Test.YtfgccihafnjalaaGreatDoorY
open Nat renaming reduceEqDiff → rq, reduceAdd → rA, reduceLeDiff → rL, reduceLT → rT, zero_add → zA, le_refl → lR, zero_le → zL, add_zero → aZ
open List renaming length_cons → lC, length_nil → lN, take_succ_cons → tS, length_append → lA, nil_append → nA, cons_append → cA, append_assoc → aA, take_nil → tN, take_zero → tZ, length_map → lM
open Bool renaming not_false → nF, not_true → nT
namespace Go.Proofs.YtfgccihafnjalaaGreatDoor
open Go Go.Am Go.Re
set_option maxRecDepth 100000
variable {P:Program} {G:Nat→Option V}
section
attribute [local go_sem] nF nT cA List.drop_nil List.drop_succ_cons List.drop_zero lA lC lN nA tS tZ aZ lR Nat.mul_one zA zL decide_false decide_true Qz QbE QDX QDW QDV QDU QDT ZG QD1 QD0 Qo1 Qo0 QoZ QwV QDZ Qt2 Qt1 Qt0 QtZ QtY QDY QtX
def QqX (L:List Nd) (x:Int):Option Int:=if (0≤x∧x<L.length)∧(L.getD x.toNat zeroNd).kind=1 then some (L.getD x.toNat zeroNd).n else none
def Qqc (L:List Nd) (x:Int):V:=match QqX L x with | some c=>.tup [.int .i64 c,.bool true] | none=>.tup [.int .i64 0,.bool false]
variable {base t w i:Nat}
theorem QAz (hT:Qh P tab) {fmt:Int→List UInt8} {v0 v1 v2 v3 v4:Nat} {L:List Nd} {x:Int} (hb:base≤5) :
 C P G base Qdx [.ptr 1 v0 0,.int .i64 x] ⟨t,kG fmt v0 v1 v2 v3 v4 L⟩ fun v σ=>v=Qqc L x∧∃ t',t≤t'∧σ=⟨t',kG fmt v0 v1 v2 v3 v4 L⟩:=by
 refine Xq 5 hb (Q0 hT ZD (by simp [QbE]) (Ql 12 ?_))
 refine ya ?_
 have hnd:=Qux (P:=P) (G:=G) hT (base:=base) (fmt:=fmt) (v0:=v0) (v1:=v1) (v2:=v2) (v3:=v3) (v4:=v4) (t:=t) (L:=L) (ex:=[]) (id:=x)
 rw [List.append_nil] at hnd
 by_cases hx:0≤x∧x<L.length
 ·rw [if_pos hx] at hnd
  generalize hd:L.getD x.toNat zeroNd=d at hnd
  simp only [Nd.cells] at hnd
  by_cases hk:d.kind=1
  ·have en:Qqc L x=.tup [.int .i64 d.n,.bool true]:=by unfold Qqc QqX; rw [hd,if_pos ⟨hx,hk⟩]
   have hk':(d.kind != 1)=false:=by simp [hk]
   rw [en]
   refine Qi9 hT QR hnd 12 fun t2 ht2=>?_
   simp -implicitDefEqProofs (disch:=omega) only [go_sem,↓reduceIte,reduceCtorEq,rA,rq,rT,QcM,Qkg,QdB]
   iterate 12 (try (refine Qa 4 ?_; simp -implicitDefEqProofs (disch:=omega) only [go_sem,↓reduceIte,reduceCtorEq,rA,rq,rL,QcM,Qkg,hk']))
   exact ⟨t2+1,by omega,rfl,rfl⟩
  ·have en:Qqc L x=.tup [.int .i64 0,.bool false]:=by unfold Qqc QqX; rw [hd,if_neg (fun h=>hk h.2)]
   have hk':(d.kind != 1)=true:=by simpa using hk
   rw [en]
   refine Qi9 hT QR hnd 12 fun t2 ht2=>?_
   simp -implicitDefEqProofs (disch:=omega) only [go_sem,↓reduceIte,reduceCtorEq,rA,rq,rT,QcM,Qkg,QdB]
   iterate 12 (try (refine Qa 4 ?_; simp -implicitDefEqProofs (disch:=omega) only [go_sem,↓reduceIte,reduceCtorEq,rA,rq,rL,QcM,Qkg,hk']))
   exact ⟨t2+1,by omega,rfl,rfl⟩
 ·rw [if_neg hx] at hnd
  have en:Qqc L x=.tup [.int .i64 0,.bool false]:=by unfold Qqc QqX; rw [if_neg (fun h=>hx h.1)]
  rw [en]
  simp only [Nd.cells,zeroNd] at hnd
  refine Qi9 hT QR hnd 12 fun t2 ht2=>?_
  simp -implicitDefEqProofs (disch:=omega) only [go_sem,↓reduceIte,reduceCtorEq,rA,rq,rT,QcM,Qkg,QdB]
  iterate 12 (try (refine Qa 4 ?_; simp -implicitDefEqProofs (disch:=omega) only [go_sem,↓reduceIte,reduceCtorEq,rA,rq,rL,QcM]))
  exact ⟨t2+1,by omega,rfl,rfl⟩
def plK (p:Pr):V:=.agg [.int .u8 p.k,.int .i64 p.n]
def plM (E:List (Pr × Int)):List (V × V):=E.map fun e=>(plK e.1,.int .i64 e.2)
theorem plK_eq (a b:Pr) (h:a.v=b.v):Qdz [Kd.i,Kd.i] (plK a) (plK b)=decide (a=b):=by
 obtain ⟨a1,a2,a3⟩:=a
 obtain ⟨b1,b2,b3⟩:=b
 simp only at h
 subst h
 simp [Qdz,plK,V.cells,QcJ,Qzw]
 rw [Bool.eq_iff_iff]; simp
theorem pl_ok (E:List (Pr × Int)) (k n:Int):QbQ true [Kd.i,Kd.i] (V.agg [.int .u8 k,.int .i64 n]) (plM E)=True:=by
 refine eq_true ⟨⟨rfl,rfl⟩,fun p hp=>?_⟩
 simp only [plM,List.mem_map] at hp
 obtain ⟨b,_,rfl⟩:=hp
 exact ⟨rfl,rfl⟩
theorem QET (E:List (Pr × Int)) (k n x:Int) (h0:∀ e∈E,e.1.v=0) (h:∀ e∈E,e.1≠⟨0,k,n⟩):Qnf [Kd.i,Kd.i] (V.agg [.int .u8 k,.int .i64 n]) (.int .i64 x) (plM E)=plM (E++[(⟨0,k,n⟩,x)]):=by
 show Qnf [Kd.i,Kd.i] (plK ⟨0,k,n⟩) (.int .i64 x) (plM E)=_
 unfold plM
 induction E with
 | nil=>rfl
 | cons e E ih =>
   have hp:¬ (⟨0,k,n⟩:Pr)=e.1:=fun he=>h e (by simp) he.symm
   simp only [List.map_cons,Qnf,plK_eq ⟨0,k,n⟩ e.1 (show (0:Int)=e.1.v from (h0 e (by simp)).symm),cA,hp,decide_false,Bool.false_eq_true,if_false]
   rw [ih (fun e he=>h0 e (by simp [he])) fun e he=>h e (by simp [he])]
def plR (rs:List Int):Nat→List (Pr × Int)
 | 0=>[]
 | r+1=>plR rs r++if QkZ (r:Int) then [(⟨0,1,(r:Int)⟩,rs.getD r 0)] else []
def plS (ss:List Int):Nat→List (Pr × Int)
 | 0=>[]
 | i+1=>plS ss i++[(⟨0,2,(i:Int)⟩,ss.getD i 0)]
theorem QgP {rs:List Int} {e:Pr × Int}:∀ {k:Nat},e∈plR rs k↔∃ r:Nat,r<k∧QkZ (r:Int)=true∧e=(⟨0,1,(r:Int)⟩,rs.getD r 0)
 | 0=>by simp [plR]
 | k+1=>by
   unfold plR
   rw [List.mem_append,QgP]
   constructor
   ·rintro (⟨r,h1,h2,h3⟩ | h)
    ·exact ⟨r,by omega,h2,h3⟩
    ·split at h
     ·rename_i hb; rw [List.mem_singleton] at h; exact ⟨k,by omega,hb,h⟩
     ·simp at h
   ·rintro ⟨r,h1,h2,h3⟩
    by_cases hr:r=k
    ·subst hr; rw [if_pos h2]; exact .inr (by simp [h3])
    ·exact .inl ⟨r,by omega,h2,h3⟩
theorem QlV {ss:List Int} {e:Pr × Int}:∀ {k:Nat},e∈plS ss k↔∃ r:Nat,r<k∧e=(⟨0,2,(r:Int)⟩,ss.getD r 0)
 | 0=>by simp [plS]
 | k+1=>by
   unfold plS
   rw [List.mem_append,QlV,List.mem_singleton]
   constructor
   ·rintro (⟨r,h1,h3⟩ | h)
    ·exact ⟨r,by omega,h3⟩
    ·exact ⟨k,by omega,h⟩
   ·rintro ⟨r,h1,h3⟩
    by_cases hr:r=k
    ·subst hr; exact .inr h3
    ·exact .inl ⟨r,by omega,h3⟩
theorem QsZ (rs:List Int):∀ k:Nat,(plR rs k).length≤k
 | 0=>by simp [plR]
 | k+1=>by have:=QsZ rs k; unfold plR; rw [lA]; split <;> simp <;> omega
theorem QsY (ss:List Int):∀ k:Nat,(plS ss k).length=k
 | 0=>by simp [plS]
 | k+1=>by have:=QsY ss k; unfold plS; rw [lA,this]; rfl
def plA (rs ss:List Int):List (Pr × Int):=plR rs 32++plS ss ss.length
abbrev pl0J (rs:List Int) (sc:List V) (w:Nat):Nat→Fr→H→Prop:=fun i fr σ=>∃ t,Qf fr 1=.ref (.agg sc) 0∧Qf fr 3=.mp 1 w∧Qf fr 10=.agg (ints rs)∧Qf fr 11=.int .i64 ((i:Nat):Int)∧σ=⟨t,[none,some (.map w (plM (plR rs i)))]⟩
abbrev pl0E (rs:List Int) (sc:List V) (w:Nat):AE→Fr→H→Prop:=fun e fr σ=>∃ t,e=.ex 0∧Qf fr 1=.ref (.agg sc) 0∧Qf fr 3=.mp 1 w∧σ=⟨t,[none,some (.map w (plM (plR rs 32)))]⟩
variable {σ:Am.H} {fr:Fr} {sc:List V} {rs ss:List Int}
theorem QxW (hT:Qh P tab) (hr:rs.length=32) (hi:i<32) (hJ:pl0J rs sc w i fr σ) :
 W P G 36 0 wN fr σ (YH (fun fr σ=>∃ fr' σ',Shift G 36 0 fr σ fr' σ'∧pl0J rs sc w (i+1) fr' σ') (pl0E rs sc w)):=by
 obtain ⟨t,f1,f3,f10,f11,rfl⟩:=hJ
 have hlt:((i:Nat):Int)<32:=by omega
 have e2:=YJ hi (by omega)
 have hg:=QbR (ss:=rs) (n:=i) (by omega)
 have hR:=c_reg (P:=P) (G:=G) hT ((i:Nat):Int)
 have hl:=Qj rs
 have hp:=QET (plR rs i) 1 ((i:Nat):Int) (rs.getD i 0) (fun e he=>by obtain ⟨r,_,_,rfl⟩:=QgP.1 he; rfl) (fun e he h=>by obtain ⟨r,h1,_,rfl⟩:=QgP.1 he; simp at h; omega)
 cases hb:QkZ ((i:Nat):Int) with
 | true =>
   have hst:plR rs (i+1)=plR rs i++[(⟨0,1,((i:Nat):Int)⟩,rs.getD i 0)]:=by show _++_=_; rw [hb]; rfl
   rw [hb] at hR
   rw [← hst] at hp
   have hk:=pl_ok (plR rs i) 1 ((i:Nat):Int)
   refine Qe [(1,.ref (.agg sc) 0),(3,.mp 1 w),(10,.agg (ints rs)),(11,.int .i64 ((i:Nat):Int))] ⟨f1,f3,f10,f11,trivial⟩  12 ?_
   refine yc ?_
   iterate 12 (try (refine Qa 4 ?_; simp -implicitDefEqProofs (disch:=omega) only [go_sem,↓reduceIte,rq,rL,Qj,true_implies,and_true,hg,hr]))
   refine QX hT Qcm hR rfl 4 ?_
   refine ya ?_
   iterate 12 (try (refine Qa 4 ?_; simp -implicitDefEqProofs (disch:=omega) only [go_sem,↓reduceIte,rA,rq,rL,and_true,List.getElem?_cons_zero,List.getElem?_cons_succ,List.set_cons_zero,List.set_cons_succ,e2,hp,hk]))
   refine ⟨_,_,Shift.refl _ _ _ _,t,?_⟩
   exact yg
 | false =>
   have hst:plR rs (i+1)=plR rs i:=by show _++_=_; rw [hb]; simp
   rw [hb] at hR
   refine Qe [(1,.ref (.agg sc) 0),(3,.mp 1 w),(10,.agg (ints rs)),(11,.int .i64 ((i:Nat):Int))] ⟨f1,f3,f10,f11,trivial⟩  12 ?_
   refine yc ?_
   iterate 12 (try (refine Qa 4 ?_; simp -implicitDefEqProofs (disch:=omega) only [go_sem,↓reduceIte,rq,rL,Qj,true_implies,and_true,hg,hr]))
   refine QX hT Qcm hR rfl 4 ?_
   refine ya ?_
   iterate 12 (try (refine Qa 4 ?_; simp -implicitDefEqProofs (disch:=omega) only [go_sem,↓reduceIte,rq,e2]))
   refine ⟨_,_,Shift.refl _ _ _ _,t,?_⟩
   rw [hst]
   exact yg
theorem QAh (hT:Qh P tab) (hi:i=32) (hJ:pl0J rs sc w i fr σ) :
 W P G 36 0 wN fr σ (YH (fun _ _=>False) (pl0E rs sc w)):=by
 obtain ⟨t,f1,f3,f10,f11,rfl⟩:=hJ
 have hlt:¬ ((i:Nat):Int)<32:=by omega
 rw [hi]
 rw [hi] at f11 hlt
 refine Qe [(1,.ref (.agg sc) 0),(3,.mp 1 w),(10,.agg (ints rs)),(11,.int .i64 ((32:Nat):Int))] ⟨f1,f3,f10,f11,trivial⟩ 12 ?_
 refine yc ?_
 refine ⟨t,rfl,?_⟩
 repeat' (first | exact rfl | refine ⟨rfl,?_⟩)
abbrev pl1J (rs ss:List Int) (w:Nat):Nat→Fr→H→Prop:=fun i fr σ=>∃ t,Qf fr 3=.mp 1 w∧Qf fr 23=.lst 1 (ints ss) false∧Qf fr 24=.int .i64 ((ss.length:Nat):Int)∧Qf fr 25=.int .i64 ((i:Nat):Int)∧σ=⟨t,[none,some (.map w (plM (plR rs 32++plS ss i)))]⟩
abbrev pl1E (rs ss:List Int) (w:Nat):AE→Fr→H→Prop:=fun e fr σ=>∃ t,e=.ex 2∧Qf fr 3=.mp 1 w∧σ=⟨t,[none,some (.map w (plM (plA rs ss)))]⟩
theorem QxV (hT:Qh P tab) (hs:ss.length≤1000) (hi:i<ss.length) (hJ:pl1J rs ss w i fr σ) :
 W P G 36 0 wO fr σ (YH (fun fr σ=>∃ fr' σ',Shift G 36 0 fr σ fr' σ'∧pl1J rs ss w (i+1) fr' σ') (pl1E rs ss w)):=by
 obtain ⟨t,f3,f23,f24,f25,rfl⟩:=hJ
 have e2:=YJ hi (by omega)
 have hg:=QbR (ss:=ss) hi
 have hp:=QET (plR rs 32++plS ss i) 2 ((i:Nat):Int) (ss.getD i 0) (fun e he=>by
  rcases List.mem_append.1 he with he | he
  ·obtain ⟨r,_,_,rfl⟩:=QgP.1 he; rfl
  ·obtain ⟨r,_,rfl⟩:=QlV.1 he; rfl) (fun e he h=>by
  rcases List.mem_append.1 he with he | he
  ·obtain ⟨r,_,_,rfl⟩:=QgP.1 he; simp at h
  ·obtain ⟨r,h1,rfl⟩:=QlV.1 he; simp at h; omega)
 rw [aA] at hp
 have hst:plR rs 32++(plS ss i++[(⟨0,2,((i:Nat):Int)⟩,ss.getD i 0)])=plR rs 32++plS ss (i+1):=rfl
 rw [hst] at hp
 have hk:=pl_ok (plR rs 32++plS ss i) 2 ((i:Nat):Int)
 refine Qe [(3,.mp 1 w),(23,.lst 1 (ints ss) false),(24,.int .i64 ((ss.length:Nat):Int)),(25,.int .i64 ((i:Nat):Int))] ⟨f3,f23,f24,f25,trivial⟩  12 ?_
 refine ye ?_
 iterate 12 (try (refine Qa 4 ?_; simp -implicitDefEqProofs (disch:=omega) only [go_sem,↓reduceIte,rA,rq,rL,Qj,true_implies,and_true,List.getElem?_cons_zero,List.getElem?_cons_succ,List.getD_cons_zero,List.set_cons_zero,List.set_cons_succ,hi,hg,e2,hp,hk]))
 refine ⟨_,_,Shift.refl _ _ _ _,t,?_⟩
 exact yg
theorem QAg (hT:Qh P tab) (hi:i=ss.length) (hJ:pl1J rs ss w i fr σ) :
 W P G 36 0 wO fr σ (YH (fun _ _=>False) (pl1E rs ss w)):=by
 obtain ⟨t,f3,f23,f24,f25,rfl⟩:=hJ
 have hpa:plR rs 32++plS ss i=plA rs ss:=by rw [hi]; rfl
 rw [hpa]
 refine Qe [(3,.mp 1 w),(23,.lst 1 (ints ss) false),(24,.int .i64 ((ss.length:Nat):Int)),(25,.int .i64 ((i:Nat):Int))] ⟨f3,f23,f24,f25,trivial⟩  12 ?_
 refine yd ?_
 refine ⟨t,rfl,?_⟩
 repeat' (first | exact rfl | refine ⟨rfl,?_⟩)
theorem QyW (hT:Qh P tab) (rs ss:List Int) (sure:Bool) (hr:rs.length=32) (hs:ss.length≤1000) :
 C P G 0 QbH [.agg (ints rs++[.lst 1 (ints ss) false,.bool sure])] ⟨t,[]⟩ fun v σ=>∃ w t',v=.mp 1 w∧σ=⟨t',[none,some (.map w (plM (plA rs ss)))]⟩:=by
 have hone:=QgI rs ss sure
 have hsl:(ints rs++[V.lst 1 (ints ss) false,V.bool sure]).length=34:=by simp [Qj,hr]
 have hsn:Qb (ints rs++[V.lst 1 (ints ss) false,V.bool sure])=true:=by simp [Qb,Qd,QdC,Qff]
 have htk:List.take 32 (ints rs++[V.lst 1 (ints ss) false,V.bool sure])=ints rs:=List.take_left' (by rw [Qj,hr])
 have g32:(ints rs++[V.lst 1 (ints ss) false,V.bool sure]).getD 32 V.any=.lst 1 (ints ss) false:=Qz6 hr _ _
 obtain ⟨sc,hsc⟩:∃ sc,sc=ints rs++[V.lst 1 (ints ss) false,V.bool sure]:=⟨_,rfl⟩
 rw [← hsc] at hone hsl hsn htk g32 ⊢
 have hne:¬ sc=[]:=fun e=>by rw [e] at hsl; cases hsl
 refine Q0 hT Qe5 (by simp [ZG]) (Ql 5 ?_)
 simp -implicitDefEqProofs (disch:=omega) only [go_sem,↓reduceIte,reduceCtorEq,rq,and_true,hone]
 refine Xf (Shift.freeze (k:=0) (v:=t) (T:=47) (cs:=sc) (zL _) rfl hsn) ?_
 simp only [QC,QW,X8,ZP,List.set_cons_zero,and_self,if_true,if_neg hne,QA,Option.map_none]
 refine Qa 16 ?_
 simp -implicitDefEqProofs (disch:=omega) only [go_sem,↓reduceIte,reduceCtorEq,rq,rL,false_implies,and_true,hsl,htk,H.push]
 refine YB 32 (pl0J rs sc (t+1)) (pl0E rs sc (t+1)) ⟨t+1+1,?_⟩ (fun i hi fr σ hJ=>QxW hT hr hi hJ) (fun i hi fr σ hJ=>QAh hT hi hJ) (fun e fr σ hE=>?_)
 ·refine yi ?_
  try simp [plM,plR]
 obtain ⟨t2,rfl,f1,f3,rfl⟩:=hE
 refine QV [(1,.ref (.agg sc) 0),(3,.mp 1 (t+1))] ⟨f1,f3,trivial⟩ 16 ?_
 simp -implicitDefEqProofs (disch:=omega) only [go_sem,↓reduceIte,rA,rq,rL,Qj,true_implies,and_true,hsl,g32]
 refine YB ss.length (pl1J rs ss (t+1)) (pl1E rs ss (t+1)) ⟨t2,?_⟩ (fun i hi fr σ hJ=>QxV hT hs hi hJ) (fun i hi fr σ hJ=>QAg hT hi hJ) (fun e fr σ hE=>?_)
 ·refine yi ?_
  try simp [plS]
 obtain ⟨t3,rfl,f3,rfl⟩:=hE
 refine QV [(3,.mp 1 (t+1))] ⟨f3,trivial⟩ 16 ?_
 refine ya ?_
 exact ⟨t+1,t3,rfl,rfl,rfl⟩
theorem QH3 (r:Nat→Nat) (E:List (Pr × Int)):(plM E).map (fun p=>(p.1,V.ren r p.2))=plM E:=by
 unfold plM
 rw [List.map_map]
 refine List.map_congr_left fun e _=>?_
 simp [V.ren]
theorem QA7 (hT:Qh P tab) (rs ss:List Int) (sure:Bool) (hr:rs.length=32) (hs:ss.length≤1000) {o:List (Option Ob)} (hb:base≤o.length) :
 C P G base QbH [.agg (ints rs++[.lst 1 (ints ss) false,.bool sure])] ⟨t,o⟩ fun v σ=>∃ w t',v=.mp (o.length+1) w∧σ=⟨t',o++[none,some (.map w (plM (plA rs ss)))]⟩:=by
 have hsn:Qb (ints rs++[V.lst 1 (ints ss) false,V.bool sure])=true:=by simp [Qb,Qd,QdC,Qff]
 refine Qjj (oS:=[]) [] (QyW hT rs ss sure hr hs (t:=t)) rfl (by simp) (by simp [Qnu]) (by simp [Qmq]) (by simp [Qzv]) (lR _) ?_ ?_ fun v σ hv=>?_
 ·simp only [XC,V.under,Qx _ hsn]; rfl
 ·simp only [Qbs,V.ren,Q5 _ hsn]
 ·obtain ⟨w,t',rfl,rfl⟩:=hv
  refine ⟨zL _,w,t',?_,?_⟩
  ·simp [V.ren,rOf]; omega
  ·simp [QbJ,Qa9,Ob.ren,QH3]
end
section
attribute [local go_sem] nF nT aA cA List.drop_nil List.drop_succ_cons List.drop_zero List.getD_cons_succ List.getD_cons_zero lA lC lN nA tN tS tZ aZ lR zA zL and_true decide_false decide_true false_implies YR ge_iff_le Qj Qnz Qsl QAB QAA QcM QgB Qny Qnx Qrc QjW Qz Qqh Qqg Qqf Qqe Qlm Qll Qlk Qlj Qn4 Qwt Qws Qwr Qwq Qwp Qwo true_and true_implies
variable {seen:List Nat}
theorem QqN {n:Nat} (hn:seen.Nodup) (h:∀ i∈seen,i<n):seen.length≤n:=by
 have:=List.Nodup.length_le_of_subset hn (l₂:=List.range n) fun i hi=>List.mem_range.2 (h i hi)
 simpa using this
theorem QsK (K ex y:List (Option Ob)):Xw (K++ex) (K++(ex++y)):=by rw [← aA]; exact XK _ _
def Qwi (E:List (Pr × Int)) (v x:Int) (seen:List Nat):List Pr:=((seen.map fun i=>E.getD i (⟨0,0,0⟩,0)).filter fun e=>decide (e.2=x)).map fun e=>⟨v,e.1.k,e.1.n⟩
theorem Qyu (E:List (Pr × Int)) (v x:Int) (seen:List Nat) (i:Nat):Qwi E v x (seen++[i])=Qwi E v x seen++(if (E.getD i (⟨0,0,0⟩,0)).2=x then [⟨v,(E.getD i (⟨0,0,0⟩,0)).1.k,(E.getD i (⟨0,0,0⟩,0)).1.n⟩] else []):=by
 unfold Qwi
 rw [List.map_append,List.filter_append,List.map_append]
 congr 1
 simp only [List.map_cons,List.map_nil,List.filter_cons,List.filter_nil,decide_eq_true_eq]
 split <;> simp
theorem QAJ (E:List (Pr × Int)) (v x:Int) (seen:List Nat):(Qwi E v x seen).length≤seen.length:=by
 unfold Qwi
 rw [lM]
 have:=List.length_filter_le (fun e:Pr × Int=>decide (e.2=x)) (seen.map fun i=>E.getD i (⟨0,0,0⟩,0))
 rwa [lM] at this
variable {v x lk:Int} {E:List (Pr × Int)}
theorem QAI (hlt:∀ i∈seen,i<E.length) (hall:∀ i,i<E.length→i∈seen) {p:Pr}:p∈Qwi E v x seen↔∃ e∈E,e.2=x∧p=⟨v,e.1.k,e.1.n⟩:=by
 unfold Qwi
 simp only [List.mem_map,List.mem_filter,decide_eq_true_eq]
 constructor
 ·rintro ⟨e,⟨⟨i,hi,rfl⟩,hx⟩,rfl⟩
  refine ⟨_,?_,hx,rfl⟩
  rw [List.getD_eq_getElem?_getD,List.getElem?_eq_getElem (hlt i hi)]
  exact List.getElem_mem _
 ·rintro ⟨e,he,hx,rfl⟩
  obtain ⟨i,hi,rfl⟩:=List.mem_iff_getElem.1 he
  refine ⟨_,⟨⟨i,hall i hi,?_⟩,hx⟩,rfl⟩
  rw [List.getD_eq_getElem?_getD,List.getElem?_eq_getElem hi]; rfl
theorem Qiz (E:List (Pr × Int)):(plM E).length=E.length:=by simp [plM]
abbrev alH (fmt:Int→List UInt8) (v0 v1 v2 v3 v4 t w wm:Nat) (L:List Nd) (E:List (Pr × Int)) (out:List Pr) (ex:List (Option Ob)):Am.H:=⟨t,kG fmt v0 v1 v2 v3 v4 L++none::none::some (.map wm (plM E))::some (.arr w 64 (fl prC out))::ex⟩
abbrev al1J (fmt:Int→List UInt8) (v0 v1 v2 v3 v4 wm ti:Nat) (L:List Nd) (E:List (Pr × Int)) (wv:List V) (v x:Int) (X:Option Ob) (out0:List Pr):Nat→Fr→H→Prop:=fun m fr σ=>∃ t w seen out,seen.Nodup∧(∀ i∈seen,i<E.length)∧m=E.length - seen.length∧out=out0++Qwi E v x seen∧Qf fr 0=.ptr 1 v0 0∧Qf fr 3=.ref (.agg wv) 0∧Qf fr 6=.mp 7 wm∧Qf fr 7=.int .i64 v∧Qf fr 8=.int .i64 x∧Qf fr 57=.ptr 10 ti 0∧Qf fr 5=.sl 8 w 0 3 out.length none∧σ=alH fmt v0 v1 v2 v3 v4 t w wm L E out [X,some (.it ti 7 wm E.length seen)]
abbrev al1E (fmt:Int→List UInt8) (v0 v1 v2 v3 v4 wm ti:Nat) (L:List Nd) (E:List (Pr × Int)) (wv:List V) (v x:Int) (X:Option Ob) (out0:List Pr):AE→Fr→H→Prop:=fun e fr σ=>∃ t w out Y,e=.ex 2∧(∀ p,p∈out↔p∈out0∨∃ e∈E,e.2=x∧p=⟨v,e.1.k,e.1.n⟩)∧out.length≤out0.length+E.length∧Qf fr 0=.ptr 1 v0 0∧Qf fr 3=.ref (.agg wv) 0∧Qf fr 6=.mp 7 wm∧Qf fr 7=.int .i64 v∧Qf fr 5=.sl 8 w 0 3 out.length none∧σ=alH fmt v0 v1 v2 v3 v4 t w wm L E out [X,Y]
variable {σ:Am.H} {fr:Fr} {out0:List Pr} {X:Option Ob} {wv:List V} {L:List Nd} {v0 v1 v2 v3 v4 wm ti m t base i:Nat} {fmt:Int→List UInt8}
theorem Qy8 (hE:E.length≤100000) (ho:out0.length≤1000000) (hJ:al1J fmt v0 v1 v2 v3 v4 wm ti L E wv v x X out0 m fr σ) :
 W P G 74 0 wP fr σ (YH (fun fr σ=>∃ m' fr' σ',m'<m∧Shift G 74 0 fr σ fr' σ'∧al1J fmt v0 v1 v2 v3 v4 wm ti L E wv v x X out0 m' fr' σ') (al1E fmt v0 v1 v2 v3 v4 wm ti L E wv v x X out0)):=by
 obtain ⟨t,w,seen,out,hn,hlt,rfl,hout,f0,f3,f6,f7,f8,f57,f5,rfl⟩:=hJ
 have hsl:=QqN hn hlt
 have hgl0:=QAJ E v x seen
 have hol:out.length≤out0.length+seen.length:=by rw [hout,lA]; omega
 refine Qe [(0,.ptr 1 v0 0),(3,.ref (.agg wv) 0),(6,.mp 7 wm),(7,.int .i64 v),(8,.int .i64 x),(57,.ptr 10 ti 0),(5,.sl 8 w 0 3 out.length none)] ⟨f0,f3,f6,f7,f8,f57,f5,trivial⟩  12 ?_
 refine ya ?_
 simp only [evW]
 simp -implicitDefEqProofs (disch:=omega) only [go_sem,↓reduceIte,reduceCtorEq,rA,rq,rT,Qiz]
 refine ⟨fun hall=>?_,fun i hi hni=>?_⟩
 ·refine ⟨t,w,out,_,rfl,fun p=>?_,by omega,rfl,rfl,rfl,rfl,rfl,rfl⟩
  rw [hout,List.mem_append,QAI hlt hall]
 ·have hgl:(seen++[i]).getLast?=some i:=by simp
  have hgd:(plM E).getD i (V.any,V.any)=(.agg [.int .u8 (E.getD i (⟨0,0,0⟩,0)).1.k,.int .i64 (E.getD i (⟨0,0,0⟩,0)).1.n],.int .i64 (E.getD i (⟨0,0,0⟩,0)).2):=by
   simp [plM,List.getD_eq_getElem?_getD,List.getElem?_eq_getElem hi,plK]
  have hgs:=Qyu E v x seen i
  have hn2:(seen++[i]).Nodup:=by rw [List.nodup_append]; exact ⟨hn,by simp,fun a ha b hb=>by simp at hb; subst hb; exact fun e=>hni (e▸ha)⟩
  have hlt2:∀ j∈seen++[i],j<E.length:=fun j hj=>by
   simp only [List.mem_append,List.mem_singleton] at hj
   rcases hj with hj | rfl
   ·exact hlt j hj
   ·exact hi
  have hsn:seen.length<E.length:=by
   have:=QqN hn2 hlt2
   simp at this; omega
  generalize E.getD i (⟨0,0,0⟩,0)=e at *
  simp only [evW]
  simp -implicitDefEqProofs (disch:=omega) only [go_sem,↓reduceIte,reduceCtorEq,rq,Qiz,hgl,hgd,hi]
  by_cases he:e.2=x
  ·rw [if_pos he] at hgs
   have he':(e.2==x)=true:=by simpa using he
   iterate 12 (try (refine Qa 4 ?_; simp -implicitDefEqProofs (disch:=omega) only [go_sem,↓reduceIte,reduceCtorEq,rA,rq,rL,rT,he']))
   refine ⟨E.length - (seen.length+1),_,_,by omega,Shift.drop (o':=(alH fmt v0 v1 v2 v3 v4 (t+1+1) (t+1) wm L E (out++[⟨v,e.1.k,e.1.n⟩]) [X,some (.it ti 7 wm E.length (seen++[i]))]).o) (t':=t+1+1) ?_ (lR _) (zL _),t+1+1,t+1,seen++[i],out++[⟨v,e.1.k,e.1.n⟩],hn2,hlt2,by simp,?_,?_⟩
   ·rw [QoE out ⟨v,e.1.k,e.1.n⟩]
    exact QsK (kG fmt v0 v1 v2 v3 v4 L) (none::none::some (.map wm (plM E))::some (.arr (t+1) 64 (fl prC (out++[⟨v,e.1.k,e.1.n⟩])))::[X,some (.it ti 7 wm E.length (seen++[i]))]) [some (Ob.arr t 62 [V.int .u8 e.1.k,V.int .i64 e.1.n])]
   ·rw [hout,aA,hgs]
   ·refine ya ?_
    try simp
  ·rw [if_neg he,List.append_nil] at hgs
   have he':(e.2==x)=false:=by simpa using he
   iterate 12 (try (refine Qa 4 ?_; simp -implicitDefEqProofs (disch:=omega) only [go_sem,↓reduceIte,reduceCtorEq,rA,rq,rT,he']))
   refine ⟨E.length - (seen.length+1),_,_,by omega,Shift.drop (o':=(alH fmt v0 v1 v2 v3 v4 (t+1) w wm L E out [X,some (.it ti 7 wm E.length (seen++[i]))]).o) (t':=t+1) ?_ (lR _) (zL _),t+1,w,seen++[i],out,hn2,hlt2,by simp,?_,?_⟩
   ·exact QsK (kG fmt v0 v1 v2 v3 v4 L) (none::none::some (.map wm (plM E))::some (.arr w 64 (fl prC out))::[X,some (.it ti 7 wm E.length (seen++[i]))]) [some (Ob.arr t 62 [V.int .u8 e.1.k,V.int .i64 e.1.n])]
   ·rw [hout,hgs]
   ·refine ya ?_
    try simp
theorem QIr {f:Nat} {args:List V} {r:V} {ex:List (Option Ob)} (h:C P G 5 f (.ptr 1 v0 0::args) ⟨t,kG fmt v0 v1 v2 v3 v4 L⟩ fun v σ=>v=r∧∃ t',t≤t'∧σ=⟨t',kG fmt v0 v1 v2 v3 v4 L⟩)
 (ha:Qb args=true) (hr:Qd r=true) :
 C P G base f (.ptr 1 v0 0::args) ⟨t,kG fmt v0 v1 v2 v3 v4 L++ex⟩ fun v σ=>v=r∧∃ t',t≤t'∧σ=⟨t',kG fmt v0 v1 v2 v3 v4 L++ex⟩:=by
 refine Qjj [0,1,2,3,4] h rfl (by decide) ?_ ?_ ?_ (lR _) ?_ ?_ fun v σ hv=>?_
 ·simp [Qnu,kG]
 ·simp [Qmq,kG,Ob.under,XC,V.under,Ob.ren,Qbs,V.ren,rOf,YQ,Qat,Zj,Qdd,QbP,-List.all_eq_true,Qaj]
 ·simp [Qzv]
 ·simp [XC,V.under,kG,Qx _ ha]
 ·simp only [Qbs,V.ren]
  rw [Q5 _ ha]
  simp [rOf]
 ·obtain ⟨rfl,t',ht,rfl⟩:=hv
  refine ⟨by simp [kG],V.ren_nameless _ hr,t',ht,?_⟩
  simp [QbJ,Qa9,kG,Ob.ren,Qbs,V.ren,rOf,YQ,Qat,Zj]
theorem QIg (L:List Nd) (x:Int):Qd (Qqc L x)=true:=by unfold Qqc; split <;> rfl
theorem Qyj (hT:Qh P tab) {ex:List (Option Ob)} :
 C P G base Qdx [.ptr 1 v0 0,.int .i64 x] ⟨t,kG fmt v0 v1 v2 v3 v4 L++ex⟩ fun v σ=>v=Qqc L x∧∃ t',t≤t'∧σ=⟨t',kG fmt v0 v1 v2 v3 v4 L++ex⟩:=QIr (QAz hT (lR 5)) rfl (QIg L x)
def Qp7 (L:List Nd) (vs:List Int) (lk:Int) (E:List (Pr × Int)) (p:Pr):Prop:=(-1≤p.v∧p.v<vs.length)∧((p.k=3∧QqX L (hW vs lk p.v)=some p.n)∨∃ e∈E,e.2=hW vs lk p.v∧p.k=e.1.k∧p.n=e.1.n)
abbrev al0J (fmt:Int→List UInt8) (v0 v1 v2 v3 v4 wm:Nat) (L:List Nd) (E:List (Pr × Int)) (wv:List V) (vs:List Int) (lk:Int):Nat→Fr→H→Prop:=fun i fr σ=>∃ t w out,∃ v:Int,v=((i:Nat):Int) - 1∧(∀ p,p∈out↔p.v<v∧Qp7 L vs lk E p)∧out.length≤i * (E.length+1)∧Qf fr 0=.ptr 1 v0 0∧Qf fr 3=.ref (.agg wv) 0∧Qf fr 6=.mp 7 wm∧Qf fr 7=.int .i64 v∧Qf fr 5=.sl 8 w 0 3 out.length none∧σ=alH fmt v0 v1 v2 v3 v4 t w wm L E out []
abbrev al0E (fmt:Int→List UInt8) (v0 v1 v2 v3 v4 wm:Nat) (L:List Nd) (E:List (Pr × Int)) (vs:List Int) (lk:Int):AE→Fr→H→Prop:=fun e fr σ=>∃ t w out,e=.ex 0∧(∀ p,p∈out↔Qp7 L vs lk E p)∧out.length≤(vs.length+1) * (E.length+1)∧Qf fr 5=.sl 8 w 0 3 out.length none∧σ=alH fmt v0 v1 v2 v3 v4 t w wm L E out []
variable {vs:List Int}
theorem Qzk (hv:-1≤v∧v<vs.length) (hx:x=hW vs lk v) (p:Pr):(p.v<v+1∧Qp7 L vs lk E p)↔(p.v<v∧Qp7 L vs lk E p)∨(QqX L x=some p.n∧p.v=v∧p.k=3)∨∃ e∈E,e.2=x∧p=⟨v,e.1.k,e.1.n⟩:=by
 constructor
 ·rintro ⟨h1,h2⟩
  by_cases hlt:p.v<v
  ·exact .inl ⟨hlt,h2⟩
  ·have he:p.v=v:=by omega
   obtain ⟨_,h3 | ⟨e,h4,h5,h6,h7⟩⟩:=h2
   ·rw [he,← hx] at h3
    exact .inr (.inl ⟨h3.2,he,h3.1⟩)
   ·rw [he,← hx] at h5
    refine .inr (.inr ⟨e,h4,h5,?_⟩)
    obtain ⟨a,b,c⟩:=p
    simp only at he h6 h7
    rw [he,h6,h7]
 ·rintro (⟨h1,h2⟩ | ⟨h1,h2,h3⟩ | ⟨e,h1,h2,rfl⟩)
  ·exact ⟨by omega,h2⟩
  ·exact ⟨by omega,⟨by omega,by omega⟩,.inl ⟨h3,by rw [h2,← hx]; exact h1⟩⟩
  ·exact ⟨by show v<v+1; omega,hv,.inr ⟨e,h1,by rw [h2,hx],rfl,rfl⟩⟩
theorem Qlh (hvi:v=((i:Nat):Int) - 1) (hv:-1≤v∧v<vs.length) (hvs:vs.length≤10) (hx:x=hW vs lk v) (hE:E.length≤1000) (hmem:∀ p,p∈out0↔(p.v<v∧Qp7 L vs lk E p)∨(QqX L x=some p.n∧p.v=v∧p.k=3)) (hlen:out0.length≤i * (E.length+1)+1) (hJ:al1J fmt v0 v1 v2 v3 v4 wm ti L E wv v x X out0 m fr σ) :
 sem P G 74 0 (YH (fun fr σ=>∃ fr' σ',Shift G 74 0 fr σ fr' σ'∧al0J fmt v0 v1 v2 v3 v4 wm L E wv vs lk (i+1) fr' σ') (al0E fmt v0 v1 v2 v3 v4 wm L E vs lk)) [.ac (.loop wP),.blk 2,.blk 1,.ac (.reg Qn4 [23,24])] .nrm fr σ:=by
 have hb:i * (E.length+1)≤11 * 1001:=Nat.mul_le_mul (by omega) (by omega)
 have e2:IntKind.i64.wrap (v+1)=v+1:=QcU (by omega)
 refine Qbe (al1J fmt v0 v1 v2 v3 v4 wm ti L E wv v x X out0) (al1E fmt v0 v1 v2 v3 v4 wm ti L E wv v x X out0) hJ (fun m fr σ hJ=>Qy8 (by omega) (by omega) hJ) fun e fr σ hE2=>?_
 obtain ⟨t,w,out,Y,rfl,ho,hl,f0,f3,f6,f7,f5,rfl⟩:=hE2
 refine QcZ [(0,.ptr 1 v0 0),(3,.ref (.agg wv) 0),(6,.mp 7 wm),(7,.int .i64 v),(5,.sl 8 w 0 3 out.length none)] ⟨f0,f3,f6,f7,f5,trivial⟩  12 ?_
 refine yf ?_
 refine ⟨_,_,Shift.drop (o':=(alH fmt v0 v1 v2 v3 v4 t w wm L E out []).o) (t':=t) (QsK (kG fmt v0 v1 v2 v3 v4 L) (none::none::some (.map wm (plM E))::some (.arr w 64 (fl prC out))::[]) [X,Y]) (lR _) (zL _),t,w,out,v+1,by omega,fun p=>?_,?_,?_⟩
 ·rw [Qzk hv hx,ho,hmem,or_assoc]
 ·rw [Nat.add_mul]; omega
 ·refine ya ?_
  try simp
theorem Qy9 (hT:Qh P tab) {rs ss:List Int} {sure:Bool} (hwv:wv=wV vs lk rs ss sure) (hr:rs.length=32) (hvs:vs.length≤10) (hE:E.length≤1000) (hok:∀ v:Int,-1≤v→v<vs.length→0≤hW vs lk v∧hW vs lk v<L.length) (hi:i<vs.length+1) (hJ:al0J fmt v0 v1 v2 v3 v4 wm L E wv vs lk i fr σ) :
 W P G 74 0 wQ fr σ (YH (fun fr σ=>∃ fr' σ',Shift G 74 0 fr σ fr' σ'∧al0J fmt v0 v1 v2 v3 v4 wm L E wv vs lk (i+1) fr' σ') (al0E fmt v0 v1 v2 v3 v4 wm L E vs lk)):=by
 obtain ⟨t,w,out,v,hv,hout,hol,f0,f3,f6,f7,f5,rfl⟩:=hJ
 have hlt:v<((vs.length:Nat):Int):=by omega
 have hwl:wv.length=36:=by rw [hwv]; simp [wV,Qj,hr]
 have g0:wv.getD 0 V.any=.lst 1 (ints vs) false:=hwv▸rfl
 have g1:wv.getD 1 V.any=.int .i64 lk:=hwv▸rfl
 have e2:IntKind.i64.wrap (v+1)=v+1:=QcU (by omega)
 have hob:out.length≤20000:=by
  have:i * (E.length+1)≤11 * 1001:=Nat.mul_le_mul (by omega) (by omega)
  omega
 obtain ⟨hx0,hx1⟩:=hok v (by omega) hlt
 obtain ⟨x,hx⟩:∃ x,x=hW vs lk v:=⟨_,rfl⟩
 rw [← hx] at hx0 hx1
 have hN:=fun (t:Nat) (ex:List (Option Ob))=>Qyj (P:=P) (G:=G) hT (base:=0) (fmt:=fmt) (v0:=v0) (v1:=v1) (v2:=v2) (v3:=v3) (v4:=v4) (t:=t) (L:=L) (ex:=ex) (x:=x)
 have hnd:=fun (t:Nat) (ex:List (Option Ob))=>Qux (P:=P) (G:=G) hT (base:=0) (fmt:=fmt) (v0:=v0) (v1:=v1) (v2:=v2) (v3:=v3) (v4:=v4) (t:=t) (L:=L) (ex:=ex) (id:=x)
 simp only [if_pos (show 0≤x∧x<L.length from ⟨hx0,hx1⟩)] at hnd
 generalize hd:L.getD x.toNat zeroNd=d at hnd
 simp only [Nd.cells] at hnd
 by_cases hv0:v<0
 ·have hge:¬ 0≤v:=by omega
  have hxl:x=lk:=by rw [hx]; unfold hW; rw [if_pos hv0]
  subst hxl
  refine Qe [(0,.ptr 1 v0 0),(3,.ref (.agg wv) 0),(6,.mp 7 wm),(7,.int .i64 v),(5,.sl 8 w 0 3 out.length none)] ⟨f0,f3,f6,f7,f5,trivial⟩  12 ?_
  simp -implicitDefEqProofs (disch:=omega) only [go_sem,↓reduceIte,reduceCtorEq,rq,rL,hlt,g0,hwl]
  iterate 12 (try (refine Qa 4 ?_; simp -implicitDefEqProofs (disch:=omega) only [go_sem,↓reduceIte,reduceCtorEq,rA,rq,rL,hge,g1,hwl]))
  refine Qi9 hT QR (hnd _ _) 4 fun t2 ht2=>?_
  refine ya ?_
  iterate 12 (try (refine Qa 4 ?_; simp -implicitDefEqProofs (disch:=omega) only [go_sem,↓reduceIte,reduceCtorEq,rA,rq]))
  cases hn:QqX L x with
  | some c =>
    have hnv:Qqc L x=.tup [.int .i64 c,.bool true]:=by unfold Qqc; rw [hn]
    rw [hnv] at hN
    refine Qi9 hT ZD (hN _ _) 4 fun t3 ht3=>?_
    refine ya ?_
    iterate 12 (try (refine Qa 4 ?_; simp -implicitDefEqProofs (disch:=omega) only [go_sem,↓reduceIte,reduceCtorEq,rA,rq,rL]))
    simp only [evW]
    simp -implicitDefEqProofs (disch:=omega) only [go_sem,↓reduceIte,reduceCtorEq,rA,rq,Qiz,H.push]
    refine Qlh (ti:=t3+1) (X:=some (Ob.arr t2 108 [V.int .u8 d.kind,V.int .i64 d.n,V.int .i64 d.a,V.int .u8 d.op,V.int .i64 d.x,V.int .i64 d.y])) (out0:=out++[⟨v,3,c⟩]) (m:=E.length) hv ⟨by omega,hlt⟩ hvs hx hE (fun p=>?_) (by rw [lA,List.length_singleton]; omega) ?_
    ·rw [List.mem_append,hout,List.mem_singleton,hn]
     refine or_congr Iff.rfl ⟨fun h=>by rw [h]; exact ⟨rfl,rfl,rfl⟩,fun h=>?_⟩
     obtain ⟨a,b,d2⟩:=p
     obtain ⟨h1,h2,h3⟩:=h
     simp only at h2 h3
     cases h1
     rw [h2,h3]
    ·have hln:out.length+1=(out++[(⟨v,3,c⟩:Pr)]).length:=by simp
     rw [hln,QoE out ⟨v,3,c⟩]
     refine ⟨t3+1+1,t3,[],out++[⟨v,3,c⟩],by simp,by simp,by simp,by simp [Qwi],rfl,?_⟩
     repeat' (first | exact rfl | refine ⟨rfl,?_⟩)
  | none =>
    have hnv:Qqc L x=.tup [.int .i64 0,.bool false]:=by unfold Qqc; rw [hn]
    rw [hnv] at hN
    refine Qi9 hT ZD (hN _ _) 4 fun t3 ht3=>?_
    refine ya ?_
    iterate 12 (try (refine Qa 4 ?_; simp -implicitDefEqProofs (disch:=omega) only [go_sem,↓reduceIte,reduceCtorEq,rq]))
    simp only [evW]
    simp -implicitDefEqProofs (disch:=omega) only [go_sem,↓reduceIte,reduceCtorEq,rA,rq,Qiz,H.push]
    iterate 4 (try (refine Qa 1 ?_; simp -implicitDefEqProofs (disch:=omega) only [go_sem,↓reduceIte,reduceCtorEq,rq]))
    refine Qlh (ti:=t3) (X:=some (Ob.arr t2 108 [V.int .u8 d.kind,V.int .i64 d.n,V.int .i64 d.a,V.int .u8 d.op,V.int .i64 d.x,V.int .i64 d.y])) (out0:=out) (m:=E.length) hv ⟨by omega,hlt⟩ hvs hx hE (fun p=>?_) (by omega) ?_
    ·rw [hout,hn]; simp
    ·refine ⟨t3+1,w,[],out,by simp,by simp,by simp,by simp [Qwi],rfl,?_⟩
     repeat' (first | exact rfl | refine ⟨rfl,?_⟩)
 ·have hge:0≤v:=by omega
  have hxl:x=vs.getD v.toNat 0:=by rw [hx]; unfold hW; rw [if_neg hv0]
  have hvn:v.toNat<vs.length:=by omega
  have g2:=QbR (ss:=vs) hvn
  rw [← hxl] at g2
  refine Qe [(0,.ptr 1 v0 0),(3,.ref (.agg wv) 0),(6,.mp 7 wm),(7,.int .i64 v),(5,.sl 8 w 0 3 out.length none)] ⟨f0,f3,f6,f7,f5,trivial⟩  12 ?_
  simp -implicitDefEqProofs (disch:=omega) only [go_sem,↓reduceIte,reduceCtorEq,rq,rL,hlt,g0,hwl]
  iterate 12 (try (refine Qa 4 ?_; simp -implicitDefEqProofs (disch:=omega) only [go_sem,↓reduceIte,reduceCtorEq,rA,rq,rL,hge,g0,g1,g2,hwl,hvn]))
  refine Qi9 hT QR (hnd _ _) 4 fun t2 ht2=>?_
  refine ya ?_
  iterate 12 (try (refine Qa 4 ?_; simp -implicitDefEqProofs (disch:=omega) only [go_sem,↓reduceIte,reduceCtorEq,rA,rq]))
  cases hn:QqX L x with
  | some c =>
    have hnv:Qqc L x=.tup [.int .i64 c,.bool true]:=by unfold Qqc; rw [hn]
    rw [hnv] at hN
    refine Qi9 hT ZD (hN _ _) 4 fun t3 ht3=>?_
    refine ya ?_
    iterate 12 (try (refine Qa 4 ?_; simp -implicitDefEqProofs (disch:=omega) only [go_sem,↓reduceIte,reduceCtorEq,rA,rq,rL]))
    simp only [evW]
    simp -implicitDefEqProofs (disch:=omega) only [go_sem,↓reduceIte,reduceCtorEq,rA,rq,Qiz,H.push]
    refine Qlh (ti:=t3+1) (X:=some (Ob.arr t2 108 [V.int .u8 d.kind,V.int .i64 d.n,V.int .i64 d.a,V.int .u8 d.op,V.int .i64 d.x,V.int .i64 d.y])) (out0:=out++[⟨v,3,c⟩]) (m:=E.length) hv ⟨by omega,hlt⟩ hvs hx hE (fun p=>?_) (by rw [lA,List.length_singleton]; omega) ?_
    ·rw [List.mem_append,hout,List.mem_singleton,hn]
     refine or_congr Iff.rfl ⟨fun h=>by rw [h]; exact ⟨rfl,rfl,rfl⟩,fun h=>?_⟩
     obtain ⟨a,b,d2⟩:=p
     obtain ⟨h1,h2,h3⟩:=h
     simp only at h2 h3
     cases h1
     rw [h2,h3]
    ·have hln:out.length+1=(out++[(⟨v,3,c⟩:Pr)]).length:=by simp
     rw [hln,QoE out ⟨v,3,c⟩]
     refine ⟨t3+1+1,t3,[],out++[⟨v,3,c⟩],by simp,by simp,by simp,by simp [Qwi],rfl,?_⟩
     repeat' (first | exact rfl | refine ⟨rfl,?_⟩)
  | none =>
    have hnv:Qqc L x=.tup [.int .i64 0,.bool false]:=by unfold Qqc; rw [hn]
    rw [hnv] at hN
    refine Qi9 hT ZD (hN _ _) 4 fun t3 ht3=>?_
    refine ya ?_
    iterate 12 (try (refine Qa 4 ?_; simp -implicitDefEqProofs (disch:=omega) only [go_sem,↓reduceIte,reduceCtorEq,rq]))
    simp only [evW]
    simp -implicitDefEqProofs (disch:=omega) only [go_sem,↓reduceIte,reduceCtorEq,rA,rq,Qiz,H.push]
    iterate 4 (try (refine Qa 1 ?_; simp -implicitDefEqProofs (disch:=omega) only [go_sem,↓reduceIte,reduceCtorEq,rq]))
    refine Qlh (ti:=t3) (X:=some (Ob.arr t2 108 [V.int .u8 d.kind,V.int .i64 d.n,V.int .i64 d.a,V.int .u8 d.op,V.int .i64 d.x,V.int .i64 d.y])) (out0:=out) (m:=E.length) hv ⟨by omega,hlt⟩ hvs hx hE (fun p=>?_) (by omega) ?_
    ·rw [hout,hn]; simp
    ·refine ⟨t3+1,w,[],out,by simp,by simp,by simp,by simp [Qwi],rfl,?_⟩
     repeat' (first | exact rfl | refine ⟨rfl,?_⟩)
end
section
attribute [local go_sem] aZ lR zA decide_false Qc4 zqn_0 zqn_1 Qqh Qqg Qqf Qqe Qlm Qll Qlk Qlj Qn4 QBF zqn_2 zqn_3 Qwt Qws Qwr Qwq Qwp Qwo
variable {sure:Bool} {lk:Int} {vs rs ss:List Int} {L:List Nd} {v0 v1 v2 v3 v4:Nat} {fmt:Int→List UInt8}
theorem QBp (hT:Qh P tab) {wm:Nat} {E:List (Pr × Int)} {wv:List V} (hwv:wv=wV vs lk rs ss sure) (hr:rs.length=32) (hvs:vs.length≤10) (hE:E.length≤1000) {i:Nat} (hi:i=vs.length+1) {fr:Fr} {σ:Am.H} (hJ:al0J fmt v0 v1 v2 v3 v4 wm L E wv vs lk i fr σ) :
 W P G 74 0 wQ fr σ (YH (fun _ _=>False) (al0E fmt v0 v1 v2 v3 v4 wm L E vs lk)):=by
 obtain ⟨t,w,out,v,hv,hout,hol,f0,f3,f6,f7,f5,rfl⟩:=hJ
 have hlt:¬ v<((vs.length:Nat):Int):=by omega
 have hwl:wv.length=36:=by rw [hwv]; simp [wV,Qj,hr]
 have g0:wv.getD 0 V.any=.lst 1 (ints vs) false:=hwv▸rfl
 have hob:i * (E.length+1)≤11 * 1001:=Nat.mul_le_mul (by omega) (by omega)
 refine Qe [(0,.ptr 1 v0 0),(3,.ref (.agg wv) 0),(6,.mp 7 wm),(7,.int .i64 v),(5,.sl 8 w 0 3 out.length none)] ⟨f0,f3,f6,f7,f5,trivial⟩  12 ?_
 simp -implicitDefEqProofs (disch:=omega) only [go_sem,↓reduceIte,reduceCtorEq,rq,rL,Qj,true_implies,and_true,hlt,g0,hwl]
 refine ⟨t,w,out,rfl,fun p=>?_,by rw [← hi]; exact hol,rfl,rfl⟩
 rw [hout]
 exact ⟨fun h=>h.2,fun h=>⟨by have:=h.1.2; omega,h⟩⟩
theorem c_All (hT:Qh P tab) (hS:Qb0 P G) {t:Nat} (hr:rs.length=32) (hvs:vs.length≤10) (hss:ss.length≤900) (hok:∀ v:Int,-1≤v→v<vs.length→0≤hW vs lk v∧hW vs lk v<L.length) :
 C P G 0 QjO [.ptr 1 v0 0,.agg (wV vs lk rs ss sure)] ⟨t,kG fmt v0 v1 v2 v3 v4 L⟩ fun u σ=>∃ out t',(∀ p,p∈out↔Qp7 L vs lk (plA rs ss) p)∧out.length≤(vs.length+1) * ((plA rs ss).length+1)∧u=.lst 3 (prs (srt out)) false∧σ=⟨t',kG fmt v0 v1 v2 v3 v4 L⟩:=by
 refine Xq 5 (zL _) (Q0 hT Qe6 (by simp [Qc4]) (Ql 5 ?_))
 have hwn:=QsC vs lk rs ss sure
 have hwl:(wV vs lk rs ss sure).length=36:=by simp [wV,Qj,hr]
 have hone:ones (wV vs lk rs ss sure)=True:=eq_true fun u hu=>by
  rcases List.mem_cons.1 hu with rfl | hu
  ·rfl
  rcases List.mem_cons.1 hu with rfl | hu
  ·rfl
  have:=QgI rs ss sure
  exact (of_eq_true this) u hu
 have hst:((wV vs lk rs ss sure).drop 2).take 34=ints rs++[V.lst 1 (ints ss) false,V.bool sure]:=List.take_of_length_le (by simp [wV,Qj,hr])
 have hEl:(plA rs ss).length≤1000:=by
  have h1:=QsZ rs 32; have h2:=QsY ss ss.length
  unfold plA; rw [lA]; omega
 obtain ⟨wv,hwv⟩:∃ wv,wv=wV vs lk rs ss sure:=⟨_,rfl⟩
 rw [← hwv] at hwn hwl hone hst ⊢
 have hne:wv≠[]:=fun e=>by rw [e] at hwl; cases hwl
 simp -implicitDefEqProofs (disch:=omega) only [go_sem,↓reduceIte,reduceCtorEq,rq,and_true,QcM,hone]
 refine Xf (Shift.freeze (k:=5) (v:=t) (T:=49) (cs:=wv) (zL _) (by first | rfl | exact Qkg) hwn) ?_
 simp only [QC,QW,X8,ZP,QdB,Z4 (lR 5),rq,false_and,and_self,if_true,if_false,if_neg hne,QA,Option.map_none]
 refine Qa 12 ?_
 simp -implicitDefEqProofs (disch:=omega) only [go_sem,↓reduceIte,reduceCtorEq,rA,rq,false_implies,and_true,hwl,hst]
 refine call hT Qe5 (QA7 hT rs ss sure hr (by omega) (base:=0) (o:=kG fmt v0 v1 v2 v3 v4 L++[none]) (zL _)) 1 fun v σ hv=>?_
 obtain ⟨wm,t2,rfl,rfl⟩:=hv
 obtain ⟨E,hE⟩:∃ E,E=plA rs ss:=⟨_,rfl⟩
 rw [← hE] at hEl ⊢
 simp -implicitDefEqProofs (disch:=omega) only [go_sem,↓reduceIte,reduceCtorEq,rA,rq,aA,cA,nA,lA,lC,lN,QcM]
 iterate 3 (try (refine Qa 1 ?_; simp -implicitDefEqProofs (disch:=omega) only [go_sem,↓reduceIte,reduceCtorEq,rq]))
 refine Xf (n:=74) (Shift.own (s:=5) (z:=0) (sz:=3) (T:=64) (yb) (by decide)) ?_
 simp -implicitDefEqProofs (disch:=omega) only [go_sem,↓reduceIte,reduceCtorEq,rA,rq,H.push,aA,cA,nA,lA,lC,lN,QcM]
 refine Qa 12 ?_
 refine ya ?_
 refine YB (vs.length+1) (al0J fmt v0 v1 v2 v3 v4 wm L E wv vs lk) (al0E fmt v0 v1 v2 v3 v4 wm L E vs lk) ⟨t2+1,t2,[],-1,by omega,fun p=>?_,by simp,?_⟩ (fun i hi fr σ hJ=>Qy9 hT hwv hr hvs hEl hok hi hJ) (fun i hi fr σ hJ=>QBp hT hwv hr hvs hEl hi hJ) (fun e fr σ hE2=>?_)
 ·simp only [List.not_mem_nil,false_iff]
  rintro ⟨h1,h2,_⟩
  omega
 ·refine yu ?_
  try simp [fl]
 ·obtain ⟨t3,w,out,rfl,ho,hol,f5,rfl⟩:=hE2
  have hob:(vs.length+1) * (E.length+1)≤11 * 1001:=Nat.mul_le_mul (by omega) (by omega)
  refine Qax [(5,.sl 8 w 0 3 out.length none)] ⟨f5,trivial⟩ ?_
  refine Xf (Shift.freeze (k:=8) (v:=w) (T:=64) (cs:=fl prC out) (zL _) rfl (X9 prC QjG _)) ?_
  have hz:=Qle (k:=8) (w:=w) out
  simp only [QC,QW,hz,Z4 (show 5≤8 by decide),Qny]
  refine Qa 12 ?_
  refine ya ?_
  refine QX hT ZC (QA9 hT hS out false (by omega)) (by simp [Qb,Qd]) 12 ?_
  simp -implicitDefEqProofs (disch:=omega) only [go_sem,↓reduceIte,rq,lA,QcM]
  exact ⟨by omega,out,t3,ho,hol,rfl,rfl,rfl⟩
end
end Go.Proofs.YtfgccihafnjalaaGreatDoor
namespace Go.Proofs.YtfgccihafnjalaaGreatDoor
open Go Go.Am Go.Re
set_option maxRecDepth 100000
def OkId (L:List Nd) (x:Int):Prop:=∃ d,Hs L d∧x=Xc L d∧(d=co d.n∨d=sy d.n)∧i64 d.n
theorem OkId.ext {L L':List Nd} {x:Int} (h:OkId L x) (e:Ext L L'):OkId L' x:=by
 obtain ⟨d,h1,h2,h3⟩:=h
 exact ⟨d,h1.ext e,by rw [Xm h1 e]; exact h2,h3⟩
variable {x lk:Int} {L:List Nd}
theorem OkId.lt (h:OkId L x):0≤x∧x<L.length:=by
 obtain ⟨d,h1,h2,h3⟩:=h
 have:=Qfr h1
 rw [h2]
 exact ⟨this.1,by have:=(List.getElem?_eq_some_iff.1 this.2).1; omega⟩
variable {d:Nd}
theorem Qx4 (h:Hs L d) (hp:d=co d.n∨d=sy d.n) (hn:i64 d.n):OkId L (Xc L d):=⟨d,h,rfl,hp,hn⟩
theorem QlX (h:Hs L d):QqX L (Xc L d)=if d.kind=1 then some d.n else none:=by
 have h1:=Qfr h
 have h2:0≤Xc L d∧Xc L d<L.length:=⟨h1.1,by have:=(List.getElem?_eq_some_iff.1 h1.2).1; omega⟩
 unfold QqX
 rw [Qtk h]
 by_cases hk:d.kind=1
 ·rw [if_pos ⟨h2,hk⟩,if_pos hk]
 ·rw [if_neg (fun h=>hk h.2),if_neg hk]
theorem OkId.i64 {n:Int} (h:OkId L x) (hx:QqX L x=some n):i64 n:=by
 obtain ⟨d,h1,rfl,h3,h4⟩:=h
 rw [QlX h1] at hx
 split at hx
 ·cases hx; exact h4
 ·cases hx
theorem Qs2 {n:Int} (h:OkId L x):QqX L x=some n↔Hs L (co n)∧x=Xc L (co n):=by
 obtain ⟨d,h1,rfl,h3,_⟩:=h
 rw [QlX h1]
 constructor
 ·intro h
  split at h
  ·rename_i hk
   rcases h3 with h3 | h3
   ·have:d.n=n:=by simpa using h
    rw [this] at h3
    rw [← h3]; exact ⟨h1,rfl⟩
   ·rw [h3] at hk; simp [sy] at hk
  ·cases h
 ·rintro ⟨h4,h5⟩
  have:=(Qf3 h1 h4).1 h5
  rw [this]; simp [co]
theorem Quq {L':List Nd} (h:OkId L x) (e:Ext L L'):QqX L' x=QqX L x:=by
 obtain ⟨d,h1,rfl,_⟩:=h
 have h2:=QlX (h1.ext e)
 rw [Xm h1 e] at h2
 rw [h2,QlX h1]
structure WOk (L:List Nd) (n cnt:Nat) (vs:List Int) (lk:Int) (rs ss:List Int):Prop where
 vl:vs.length=n
 rl:rs.length=32
 sl:ss.length=cnt
 v:∀ x∈vs,OkId L x
 l:OkId L lk
 r:∀ r:Nat,1≤r→r<32→r≠2→OkId L (rs.getD r 0)
 s:∀ x∈ss,OkId L x
variable {vs rs ss:List Int} {n cnt:Nat}
theorem WOk.hw (h:WOk L n cnt vs lk rs ss) {v:Int} (h1:v<n):OkId L (hW vs lk v):=by
 unfold hW
 split
 ·exact h.l
 ·have:v.toNat<vs.length:=by rw [h.vl]; omega
  rw [List.getD_eq_getElem?_getD,List.getElem?_eq_getElem this]
  exact h.v _ (List.getElem_mem _)
def plH (rs ss:List Int) (e:Pr):Int:=if e.k=1 then rs.getD e.n.toNat 0 else ss.getD e.n.toNat 0
theorem YS {p:Pr}:QQ ((n:Nat):Int) cnt p=true↔(-1≤p.v∧p.v<n)∧((p.k=1∧1≤p.n∧p.n≤31∧p.n≠2)∨(p.k=2∧0≤p.n∧p.n<cnt)∨p.k=3):=by
 unfold QQ QkZ
 simp only [Bool.and_eq_true,decide_eq_true_eq]
 refine and_congr Iff.rfl ?_
 by_cases h1:p.k=1
 ·simp [h1]
 ·by_cases h2:p.k=2
  ·simp [h2]
  ·simp [h1,h2]
theorem Qim (h1:vs.length=n) (h2:ss.length=cnt) (p:Pr):Qp7 L vs lk (plA rs ss) p↔QQ ((n:Nat):Int) cnt p=true∧(if p.k=3 then QqX L (hW vs lk p.v)=some p.n else hW vs lk p.v=plH rs ss (pE p)):=by
 rw [YS]
 unfold Qp7 plA plH
 rw [h1]
 constructor
 ·rintro ⟨hv,h3 | ⟨e,he,h4,h5,h6⟩⟩
  ·exact ⟨⟨hv,.inr (.inr h3.1)⟩,by rw [if_pos h3.1]; exact h3.2⟩
  ·rcases List.mem_append.1 he with he | he
   ·obtain ⟨r,a1,a2,rfl⟩:=QgP.1 he
    unfold QkZ at a2
    simp only [decide_eq_true_eq] at a2
    simp only at h4 h5 h6
    refine ⟨⟨hv,.inl ⟨h5,by omega,by omega,by omega⟩⟩,?_⟩
    rw [if_neg (by omega),if_pos (show (pE p).k=1 from h5),← h4]
    show _=rs.getD p.n.toNat 0
    rw [h6]; rfl
   ·obtain ⟨r,a1,rfl⟩:=QlV.1 he
    simp only at h4 h5 h6
    refine ⟨⟨hv,.inr (.inl ⟨h5,by omega,by omega⟩)⟩,?_⟩
    have hk:(pE p).k=2:=h5
    rw [if_neg (by omega),if_neg (by omega),← h4]
    show _=ss.getD p.n.toNat 0
    rw [h6]; rfl
 ·rintro ⟨⟨hv,hc⟩,hh⟩
  refine ⟨hv,?_⟩
  rcases hc with ⟨k1,a1,a2,a3⟩ | ⟨k2,a1,a2⟩ | k3
  ·rw [if_neg (by omega),if_pos (show (pE p).k=1 from k1)] at hh
   refine .inr ⟨(⟨0,1,((p.n.toNat:Nat):Int)⟩,rs.getD p.n.toNat 0),List.mem_append_left _ (QgP.2 ⟨p.n.toNat,by omega,?_,rfl⟩),hh.symm,k1,by show p.n=((p.n.toNat:Nat):Int); omega⟩
   unfold QkZ; simp only [decide_eq_true_eq]; omega
  ·have hk:(pE p).k=2:=k2
   rw [if_neg (by omega),if_neg (by omega)] at hh
   exact .inr ⟨(⟨0,2,((p.n.toNat:Nat):Int)⟩,ss.getD p.n.toNat 0),List.mem_append_right _ (QlV.2 ⟨p.n.toNat,by omega,rfl⟩),hh.symm,k2,by show p.n=((p.n.toNat:Nat):Int); omega⟩
  ·rw [if_pos k3] at hh
   exact .inl ⟨k3,hh⟩
theorem QHK {t u:Tm} (h:tmN t=tmN u):t=u:=by
 cases t <;> cases u <;> simp [tmN,co,sy] at h <;> simp [h]
open Classical in
noncomputable def numO (L:List Nd) (x:Int):Option Int:=if OkId L x then QqX L x else none
variable {l:List Pr}
theorem QBo (hW0:WOk L n cnt vs lk rs ss) (hl:∀ p,p∈l↔Qp7 L vs lk (plA rs ss) p):AllOf (fun p=>QQ ((n:Nat):Int) cnt p=true) (hW vs lk) (plH rs ss) (numO L) l:=by
 refine ⟨fun p=>?_,fun p hp=>?_,fun x y m hx hy=>?_⟩
 ·rw [hl,Qim hW0.vl hW0.sl]
  refine and_congr_right fun ht=>?_
  have hr:=(YS.1 ht).1
  unfold numO
  rw [if_pos (hW0.hw hr.2)]
 ·have:=(YS.1 hp).2
  omega
 ·unfold numO at hx hy
  split at hx
  ·split at hy
   ·rename_i h1 h2
    rw [((Qs2 h1).1 hx).2,((Qs2 h2).1 hy).2]
   ·cases hy
  ·cases hx
theorem Qxs (hs:Srt l) (h:∀ p∈l,QQ ((n:Nat):Int) cnt p=true):Zw l n cnt=l:=by
 unfold Zw
 rw [QxB hs]
 exact List.filter_eq_self.2 h
theorem Qy7 {Lm L0:List Nd} {nx b:Int} (hW0:WOk L n cnt vs lk rs ss) (hl:∀ p,p∈l↔Qp7 L vs lk (plA rs ss) p) (hA:AllH Lm (frS l b n).1) (hR:AllR L0 nx 32) (hS:AllS L0 nx cnt) (hE:Ext L0 Lm) (hb:b=nx+30+((cnt:Nat):Int)) (p:Pr) :
 Qp7 Lm (vsW Lm l b n) (hvW Lm l b n (-1)) (plA (rsW L0 Lm l b nx n) (ssW L0 Lm l b nx n cnt)) p↔p∈l:=by
 have hAll:=QBo hW0 hl
 rw [Qim (Qly _ _ _ _) (Qdq _ _ _ _ _ _ _)]
 by_cases ht:QQ ((n:Nat):Int) cnt p=true
 ·have htp:=YS.1 ht
  rw [hAll.again (b0:=b) (es:=Qgo n l) (fun q hq=>vE_in (YS.1 hq).1) p ht,QjX htp.1]
  simp only [ht,true_and]
  obtain ⟨t,hv,hh,hs⟩:=Qfs hA htp.1
  rw [hh,hv]
  by_cases hk:p.k=3
  ·rw [if_pos hk,if_pos hk,QlX hs]
   cases t with
   | c m=>simp [tmN,co]
   | s m=>simp [tmN,sy]
  ·rw [if_neg hk,if_neg hk]
   have hpl:∀ (k:Int) (f:Nat→Int) (m:Nat),p.k=k→0≤p.n→p.n.toNat<m→(∃ c,f p.n.toNat=Xc L0 (sy c)∧Hs L0 (sy c)∧c<b)→(Xc Lm (tmN t)=(plW Lm l b n k f m).getD p.n.toNat 0↔(∃ q,q∈l∧pE q=pE p)∧some t=val l b (Qgo n l) (pE p)):=by
    intro k f m hk0 h0 hm hf
    rw [Qop hm]
    by_cases hex:∃ q,q∈l∧pE q=pE p
    ·obtain ⟨q,hq,he⟩:=hex
     have hqk:q.k=k:=by have:=congrArg Pr.k he; exact this.trans hk0
     have hqn:q.n=p.n:=by have:=congrArg Pr.n he; exact this
     have hpb:Xb l k ((p.n.toNat:Nat):Int)=true:=List.any_eq_true.2 ⟨q,hq,by simp [hqk,hqn,Int.toNat_of_nonneg h0]⟩
     rw [if_pos hpb]
     have e3:(⟨0,k,((p.n.toNat:Nat):Int)⟩:Pr)=pE q:=by rw [he]; simp [pE,hk0,Int.toNat_of_nonneg h0]
     rw [e3,Qys hq]
     have hqt:=(YS.1 ((hAll.mem q).1 hq).1).1
     obtain ⟨u,hu,huh,hus⟩:=Qfs hA hqt
     have hc:val l b (Qgo n l) (pE p)=some u:=by
      rw [← he,Qo7 (.bwd (.refl _) (List.mem_map.2 ⟨q,hq,rfl⟩)),hu]
     rw [huh,hc,Qf3 hs hus]
     exact ⟨fun h=>⟨⟨q,hq,he⟩,by rw [QHK h]⟩,fun h=>by injection h.2 with h; rw [h]⟩
    ·have hpb:Xb l k ((p.n.toNat:Nat):Int)=false:=List.any_eq_false.2 fun q hq=>by
      intro hc
      simp only [decide_eq_true_eq] at hc
      refine hex ⟨q,hq,?_⟩
      simp only [pE,hc.1,hc.2,hk0,Int.toNat_of_nonneg h0]
     rw [hpb]
     simp only [Bool.false_eq_true,if_false]
     obtain ⟨c,hc1,hc2,hc3⟩:=hf
     rw [hc1,← Xm hc2 hE]
     refine ⟨fun h=>?_,fun h=>absurd h.1 hex⟩
     have:=Qtj hA (v:=p.v) htp.1 (hc2.ext hE) hc3
     rw [hh] at this
     exact absurd h.symm this
   unfold plH
   rcases htp.2 with ⟨k1,a1,a2,a3⟩ | ⟨k2,a1,a2⟩ | k3
   ·rw [if_pos (show (pE p).k=1 from k1)]
    refine hpl 1 _ 32 k1 (by omega) (by omega) ⟨rNo nx p.n.toNat,QsU (by omega) (by omega),?_,?_⟩
    ·have:=hR p.n.toNat (by omega) (by omega)
     unfold QqR at this
     rw [if_neg (by omega)] at this
     exact this
    ·unfold rNo; split <;> omega
   ·have hk2:¬ (pE p).k=1:=by show ¬ p.k=1; omega
    rw [if_neg hk2]
    exact hpl 2 _ cnt k2 (by omega) (by omega) ⟨nx+30+((p.n.toNat:Nat):Int),rfl,hS _ (by omega),by omega⟩
   ·exact absurd k3 hk
 ·constructor
  ·rintro ⟨h,_⟩; exact absurd h ht
  ·intro h; exact absurd ((hAll.mem p).1 h).1 ht
end Go.Proofs.YtfgccihafnjalaaGreatDoor
