/- Contracts: the model of an environment. -/
import Derived.Test.YtoeicjlflmmmcaaGreatDoorJ9
import Derived.Test.YtoeicjlflmmmcaaGreatDoorJ3
open Nat renaming reduceEqDiff → rq, reduceAdd → rA, reduceLeDiff → rL, reduceLT → rT, zero_add → zA, le_refl → lR, zero_le → zL, add_zero → aZ
open List renaming length_cons → lC, length_nil → lN, take_succ_cons → tSq, length_append → lA, nil_append → nA, cons_append → cA, append_assoc → aA, take_nil → tN, take_zero → tZ, length_map → lM
open Bool renaming not_false → nFq, not_true → nT
namespace Go.Proofs.YtoeicjlflmmmcaaGreatDoor
open Go Go.Am Go.Bl
set_option maxRecDepth 100000
variable {P:Program} {G:Nat→Option V} {cap:Nat}
set_option maxHeartbeats 1000000
section
attribute [local go_sem] nFq nT aZ lR Nat.mul_one zA Option.getD_none Option.getD_some Option.isSome_none Option.isSome_some beq_self_eq_true XC XZ zqv_0 zqv_1 zqv_2 zqv_3 QJO QJN QoB QoA Qoz Qoy Qox Qow Qov Qou Qot Qos QJM Qvc QJL QJK QJJ QJI Qvb Qva Qu9 bne_self_eq_false decide_false decide_true ge_iff_le gt_iff_lt Q3
def nbs (M:List Bool):List V:=M.map V.bool
theorem Yp (M:List Bool):(nbs M).length=M.length:=by simp [nbs]
variable {i base t n:Nat} {M:List Bool}
theorem Qbs (h:i<M.length):(nbs M).getD i V.any=.bool (M.getD i false):=by
 rw [List.getD_eq_getElem?_getD,List.getD_eq_getElem?_getD,nbs,List.getElem?_map,List.getElem?_eq_getElem h]; rfl
variable {l x:Int} {E:Ev} {K:List (Int × List Int)} {S:St} {B:Bv} {g:Gr}
theorem k_is (hT:Qe P tab) {vr vb:Nat} {z:Option Nat} {o12:Option Ob} {ex:List (Option Ob)} {T T2:Nat} (hl:lit M.length l) (hM:M.length≤100000000) :
 C P G base XK [.int .i64 l,.ptr 14 vb 0] ⟨t,bH g B S K E++o12::some (.arr vr T (nbs M))::some (.arr vb T2 [.sl 13 vr 0 1 M.length z])::ex⟩ fun v σ=>v=.bool (lv M l)∧σ=⟨t,bH g B S K E++o12::some (.arr vr T (nbs M))::some (.arr vb T2 [.sl 13 vr 0 1 M.length z])::ex⟩:=by
 obtain ⟨h0,h1,h2⟩:=hl
 refine Qo hT XF (by simp [XZ]) (Qm 1000 ?_)
 unfold lv
 by_cases hn:l<0
 ·have e1:IntKind.i64.wrap (0 - l)=-l:=by rw [wrap_i64 (by omega) (by omega)]; omega
  have e2:IntKind.i64.wrap (-l - 1)=-l - 1:=by rw [wrap_i64 (by omega) (by omega)]
  have e3:(0:Int)≤-l - 1:=by omega
  have e4:-l - 1<(M.length:Int):=by omega
  have e5:=Qbs (M:=M) (i:=(-l - 1).toNat) (by omega)
  have e6:(-l - 1).toNat<M.length:=by omega
  rw [if_pos hn]
  simp -implicitDefEqProofs (disch:=omega) only [go_sem,↓reduceIte,reduceCtorEq,rq,x13,x14,lC,lN,true_implies,true_and,and_true,hn,e1,e2,e3,e5,e6,Yp]
 ·have e2:IntKind.i64.wrap (l - 1)=l - 1:=by rw [wrap_i64 (by omega) (by omega)]
  have e3:(0:Int)≤l - 1:=by omega
  have e4:l - 1<(M.length:Int):=by omega
  have e5:=Qbs (M:=M) (i:=(l - 1).toNat) (by omega)
  have e6:(l - 1).toNat<M.length:=by omega
  rw [if_neg hn]
  simp -implicitDefEqProofs (disch:=omega) only [go_sem,↓reduceIte,reduceCtorEq,rq,x13,x14,lC,lN,true_implies,true_and,and_true,hn,e2,e3,e5,e6,Yp]
def voI (S:List Int) (C':List Cl) (L:List Nd) (x:Int):Int:=if 0≤x∧x<L.length then val S C' L x else 0
def Qbp (S:List Int) (C':List Cl) (L:List Nd) (a b:Int):Bool:=Zc (voI S C' L a) b.toNat
theorem ofV_vo (S:List Int) (C':List Cl) (L:List Nd) (x:Int):∃ b,ofV S C' L x=.tup [.int .i64 (voI S C' L x),.bool b]:=by
 unfold ofV voI
 split
 ·exact ⟨true,rfl⟩
 ·exact ⟨false,rfl⟩
theorem x_Of (hT:Qe P tab) (SO:Q1 P) {ex:List (Option Ob)} (hL:g.L.length≤1000000) (hok:okN g.L) (Sy:List Int) (hS:∀ x∈Sy,i64 x) (tS:Bool) (C':List Cl) (hC:C'.length≤1000000) (hCn:∀ c∈C',i64 c.n) (tC:Bool) (x:Int) :
 C P G base Qc8 [.ptr 1 g.v0 0,QiX Sy tS 4 C' tC,.int .i64 x] ⟨t,bH g B S K E++ex⟩ fun v σ=>v=ofV Sy C' g.L x∧∃ t',t≤t'∧σ=⟨t',bH g B S K E++ex⟩:=by
 rw [Qr3]
 exact k_Of hT SO hL hok Sy hS tS C' hC hCn tC x
theorem QLE:∀ {gs:List Gt} {i:Nat} {x:Gt},gs[i]?=some x→List.take 3 (List.drop (i * 3) (gC gs))=Gtc x
 | g::gs,0,x,h=>by cases h; rfl
 | g::gs,i+1,x,h=>by
   have e:gC (g::gs)=Gtc g++gC gs:=rfl
   rw [e,show (i+1) * 3=3+i * 3 by omega,← List.drop_drop]
   exact QLE (gs:=gs) (i:=i) h
def QqI (M:List Bool) (n:Nat):List Bool:=M++List.replicate (n - M.length) false
theorem QzM (h:M.length≤n):(QqI M n).length=n:=by simp [QqI]; omega
theorem QzL {b:Bool} (hi:M.length=i) (h:i<n):List.take i (nbs (QqI M n))++[.bool b]++List.drop (i+1) (nbs (QqI M n))=nbs (QqI (M++[b]) n):=by
 subst hi
 unfold QqI nbs
 rw [List.map_append,List.take_append_of_le_length (by simp),List.take_of_length_le (by simp),List.drop_append,List.drop_eq_nil_of_le (by simp),nA,List.map_replicate,List.drop_replicate]
 simp
 omega
theorem Qm9 (h:lit M.length l):lv (QqI M n) l=lv M l:=Qxu h
variable {K2:List (Int × Int)}
theorem kEs_vo {f:Int→Int} (h:∀ p∈K2,p.2=f p.1) {v:Int} (hk:kAt K2 x=some v):v=f x:=by
 unfold kAt at hk
 cases hf:K2.find? fun p=>decide (x=p.1) with
 | none=>rw [hf] at hk; cases hk
 | some p =>
   rw [hf] at hk
   cases hk
   have:=List.find?_some hf
   rw [of_decide_eq_true this]
   exact h p (List.mem_of_find?_eq_some hf)
theorem QAj (hk:kAt K2 x=none):x ∉ K2.map (·.1):=by
 intro hm
 obtain ⟨p,hp,rfl⟩:=List.mem_map.1 hm
 unfold kAt at hk
 rw [Option.map_eq_none_iff] at hk
 exact absurd (List.find?_eq_none.1 hk p hp) (by simp)
variable {fr:Fr}
theorem Qi6 {a b c d:Option Ob} (r:List (Option Ob)):Shift G n 5 fr ⟨t,bH g B S K E++a::b::c::d::r⟩ fr ⟨t,bH g B S K E++[a,b,c,d]⟩ :=
 Shift.drop (Xd 16 (bH g B S K E++a::b::c::d::r)) (lR _) (by rw [QK]; omega)
def moJ (g:Gr) (B:Bv) (S:St) (K:List (Int × List Int)) (E:Ev) (t:Nat) (Sy:List Int) (tS:Bool) (C':List Cl) (tC:Bool) (i:Nat) (fr:Fr) (σ:H):Prop :=
 ∃ ve vr vb vm t' K2,t≤t'∧(∀ p∈K2,p.2=voI Sy C' g.L p.1)∧σ=⟨t',bH g B S K E++[some (.arr ve 26 [.lst 1 (Qb Sy) tS,.lst 4 (C'.map Cl.v) tC]),some (.arr vr 4 (nbs (QqI (mdl (Qbp Sy C' g.L) (S.gs.take i)) S.gs.length))),some (.arr vb 49 [.sl 13 vr 0 1 S.gs.length none]),some (.map vm (kEs K2))]⟩∧Qd fr 0=.ptr 7 g.b 0∧Qd fr 3=.ptr 12 ve 0∧Qd fr 5=.ptr 14 vb 0∧Qd fr 6=.fn (.func XK) [] [.ptr 14 vb 0]∧Qd fr 7=.mp 15 vm∧Qd fr 25=.sl 8 B.g 0 3 S.gs.length none∧Qd fr 26=.int .i64 S.gs.length∧Qd fr 27=.int .i64 ((i:Nat):Int)
def moE (g:Gr) (B:Bv) (S:St) (K:List (Int × List Int)) (E:Ev) (t:Nat) (Sy:List Int) (C':List Cl) (e:AE) (fr:Fr) (σ:H):Prop :=
 e=.ex 0∧∃ o1 vr vb o2 t',t≤t'∧σ=⟨t',bH g B S K E++[o1,some (.arr vr 4 (nbs (mdl (Qbp Sy C' g.L) S.gs))),some (.arr vb 49 [.sl 13 vr 0 1 S.gs.length none]),o2]⟩∧Qd fr 5=.ptr 14 vb 0
theorem c0:((0:Nat):Int)=0:=rfl
theorem c1:((1:Nat):Int)=1:=rfl
theorem c2:((2:Nat):Int)=2:=rfl
variable {σ:H}
theorem QzP (hT:Qe P tab) (SO:Q1 P) (hL:g.L.length≤1000000) (hok:okN g.L) (Sy:List Int) (hS:∀ x∈Sy,i64 x) (tS:Bool) (C':List Cl) (hC:C'.length≤1000000) (hCn:∀ c∈C',i64 c.n) (tC:Bool) (hw:Wf S.gs) (hgl:S.gs.length≤9000000) {x:Gt} (hx:S.gs[i]?=some x) (hJ:moJ g B S K E t Sy tS C' tC i fr σ) :
 W P G 106 5 wd fr σ (Qbb (fun fr σ=>∃ fr' σ',Shift G 106 5 fr σ fr' σ'∧moJ g B S K E t Sy tS C' tC (i+1) fr' σ') (moE g B S K E t Sy C')):=by
 obtain ⟨ve,vr,vb,vm,t',K2,ht,hK2,rfl,f0,f3,f5,f6,f7,f25,f26,f27⟩:=hJ
 have hlt:=(List.getElem?_eq_some_iff.1 hx).1
 have hki:(i:Int)<S.gs.length:=by omega
 have hk0:(0:Int)≤(i:Int):=by omega
 have hw1:IntKind.i64.wrap ((i:Int)+1)=((i+1:Nat):Int):=by rw [wrap_i64 (by omega) (by omega)]; omega
 have gx:=QLE hx
 have htk:S.gs.take (i+1)=S.gs.take i++[x]:=by rw [List.take_add_one,hx]; rfl
 have hMl:(mdl (Qbp Sy C' g.L) (S.gs.take i)).length=i:=by rw [Zi,List.length_take]; omega
 have hrl:=QzM (M:=mdl (Qbp Sy C' g.L) (S.gs.take i)) (n:=S.gs.length) (by omega)
 have hput:=fun b=>QzL (M:=mdl (Qbp Sy C' g.L) (S.gs.take i)) (n:=S.gs.length) (b:=b) hMl hlt
 have hnext:mdl (Qbp Sy C' g.L) (S.gs.take (i+1))=mdl (Qbp Sy C' g.L) (S.gs.take i)++[gv (Qbp Sy C' g.L) (mdl (Qbp Sy C' g.L) (S.gs.take i)) x]:=by rw [htk,Qs8]
 have hk2:=hw.kd i x hx
 have har:=hw.ar i x hx
 have hin:=hw.inp i x hx
 unfold moJ
 rw [hnext]
 obtain ⟨k,a,b⟩:=x
 simp only at hk2 har hin
 have hgl3:=QxS S.gs
 generalize mdl (Qbp Sy C' g.L) (S.gs.take i)=M at *
 simp only [Gtc] at gx
 refine Qh [(0,.ptr 7 g.b 0),(3,.ptr 12 ve 0),(5,.ptr 14 vb 0),(6,.fn (.func XK) [] [.ptr 14 vb 0]),(7,.mp 15 vm),(25,.sl 8 B.g 0 3 S.gs.length none),(26,.int .i64 S.gs.length),(27,.int .i64 ((i:Nat):Int))] ⟨f0,f3,f5,f6,f7,f25,f26,f27,trivial⟩  1000 ?_
 rcases (show k=0∨k=1∨k=2 by omega) with rfl | rfl | rfl
 ·obtain ⟨b0,b1⟩:=hin rfl
  have he:(QkC .i64 ((voI Sy C' g.L a).fdiv (2 ^ min b.toNat 64)) 1==1)=gv (Qbp Sy C' g.L) M ⟨0,a,b⟩:=by
   have e1:QkC .i64 ((voI Sy C' g.L a).fdiv (2 ^ min b.toNat 64)) 1=voI Sy C' g.L a / 2 ^ b.toNat % 2:=by
    rw [Nat.min_eq_left (by omega),Int.fdiv_eq_ediv_of_nonneg _ (Int.le_of_lt (Ya _))]
    exact Qr7 .i64 1 _ 1 rfl (by decide)
   rw [e1]
   show _=Zc _ _
   unfold Zc
   rw [Bool.eq_iff_iff,beq_iff_eq,decide_eq_true_eq]
  cases hk:kAt K2 a with
  | some v =>
    have hv:=kEs_vo hK2 hk
    subst hv
    simp -implicitDefEqProofs (disch:=omega) only [go_sem,↓reduceIte,reduceCtorEq,rA,rq,rL,rT,b_8,QK,X0,x13,x14,x15,x16,y13,y16,lC,lN,cA,nA,false_implies,true_implies,true_and,and_true,hki,hk0,hlt,Int.toNat_natCast,gx,hgl3,c0,Qh1,QbV,hk,b0,he,hput,hrl,Yp,hw1]
    refine ⟨_,_,Qi6 _,ve,vr,vb,vm,t'+1,K2,by omega,hK2,rfl,?_⟩
    simp -implicitDefEqProofs (disch:=omega) only [go_sem,↓reduceIte,reduceCtorEq,rq]
  | none =>
    have hO:=fun t ex=>x_Of (P:=P) (G:=G) (base:=17) (t:=t) (g:=g) (B:=B) (S:=S) (K:=K) (E:=E) (ex:=ex) hT SO hL hok Sy hS tS C' hC hCn tC a
    obtain ⟨q,hq⟩:=ofV_vo Sy C' g.L a
    simp only [QiX,hq] at hO
    have hk2:kAt (K2++[(a,voI Sy C' g.L a)]) a=some (voI Sy C' g.L a):=by rw [Qtk,hk,if_pos rfl]; rfl
    have hpt:=Qs5 (v:=voI Sy C' g.L a) (QAj hk)
    simp -implicitDefEqProofs (disch:=omega) only [go_sem,↓reduceIte,reduceCtorEq,rA,rq,rL,rT,b_7,b_8,QK,X0,x12,x15,x16,y16,lC,lN,cA,nA,false_implies,true_implies,true_and,and_true,hki,hk0,hlt,Int.toNat_natCast,gx,hgl3,c0,Qh1,QbV,hk]
    refine call hT QbT (hO _ _) 1000 fun v σ hv=>?_
    obtain ⟨rfl,t1,ht1,rfl⟩:=hv
    simp -implicitDefEqProofs (disch:=omega) only [go_sem,↓reduceIte,reduceCtorEq,rA,rq,rL,rT,x13,x14,x15,x16,y13,y15,lC,lN,true_implies,true_and,and_true,hk0,hlt,Int.toNat_natCast,hpt,Qh1,QbV,hk2,b0,he,hput,hrl,Yp,hw1]
    refine ⟨_,_,Qi6 _,ve,vr,vb,vm,t1,K2++[(a,voI Sy C' g.L a)],by omega,?_,rfl,?_⟩
    ·intro p hp
     rcases List.mem_append.1 hp with hp | hp
     ·exact hK2 p hp
     ·rw [List.mem_singleton.1 hp]
    simp -implicitDefEqProofs (disch:=omega) only [go_sem,↓reduceIte,reduceCtorEq,rq]
 ·rcases Nat.eq_zero_or_pos i with hi0 | hi0
  ·have hem:M=[]:=List.eq_nil_of_length_eq_zero (by omega)
   have hgv:gv (Qbp Sy C' g.L) M ⟨1,a,b⟩=true:=by rw [hem]; rfl
   have hii:((i:Nat):Int)=0:=by omega
   have hi2:((i:Int)==0)=true:=beq_iff_eq.2 hii
   have hi1:decide ((i:Int)=0)=true:=decide_eq_true hii
   rw [hgv]
   simp -implicitDefEqProofs (disch:=omega) only [go_sem,↓reduceIte,reduceCtorEq,rA,rq,rL,rT,Int.reduceEq,b_7,b_8,QK,X0,x12,x13,x14,x15,x16,y13,y16,lC,lN,cA,nA,false_implies,true_implies,true_and,and_true,hki,hk0,hlt,Int.toNat_natCast,gx,hgl3,c1,hi2,hput,hrl,Yp,hw1]
   first
    | refine ⟨_,_,Qi6 _,ve,vr,vb,vm,t'+1,K2,by omega,hK2,rfl,?_⟩
      simp -implicitDefEqProofs (disch:=omega) only [go_sem,↓reduceIte,reduceCtorEq,rq]
  ·obtain ⟨la,lb⟩:=har hi0 (by decide)
   rw [← hMl] at la lb
   have hne:M.isEmpty=false:=by
    rw [List.isEmpty_eq_false_iff]
    intro h0
    rw [h0] at hMl
    simp at hMl; omega
   have hgv:gv (Qbp Sy C' g.L) M ⟨1,a,b⟩=(lv M a&&lv M b):=by
    show (M.isEmpty || (lv M a&&lv M b))=_
    rw [hne,Bool.false_or]
   have hi1:¬ (i:Int)=0:=by omega
   have hi2:((i:Int)==0)=false:=beq_eq_false_iff_ne.2 hi1
   have la':=QcF la (show M.length≤(QqI M S.gs.length).length by omega)
   have lb':=QcF lb (show M.length≤(QqI M S.gs.length).length by omega)
   have hIa:=fun t ex=>k_is (P:=P) (G:=G) (base:=17) (t:=t) (g:=g) (B:=B) (S:=S) (K:=K) (E:=E) (vr:=vr) (vb:=vb) (z:=none) (T:=4) (T2:=49) (ex:=ex) (o12:=some (.arr ve 26 [.lst 1 (Qb Sy) tS,.lst 4 (C'.map Cl.v) tC])) hT la' (by omega)
   have hIb:=fun t ex=>k_is (P:=P) (G:=G) (base:=17) (t:=t) (g:=g) (B:=B) (S:=S) (K:=K) (E:=E) (vr:=vr) (vb:=vb) (z:=none) (T:=4) (T2:=49) (ex:=ex) (o12:=some (.arr ve 26 [.lst 1 (Qb Sy) tS,.lst 4 (C'.map Cl.v) tC])) hT lb' (by omega)
   rw [Qm9 la,hrl] at hIa
   rw [Qm9 lb,hrl] at hIb
   rw [hgv]
   simp -implicitDefEqProofs (disch:=omega) only [go_sem,↓reduceIte,reduceCtorEq,rA,rq,rL,rT,Int.reduceEq,b_7,b_8,QK,X0,x12,x13,x14,x15,x16,y13,y16,lC,lN,cA,nA,false_implies,true_implies,true_and,and_true,hki,hk0,hlt,Int.toNat_natCast,gx,hgl3,c1,hi2]
   refine QlB hT XF (hIa _ _) 1000 fun v σ hv=>?_
   obtain ⟨rfl,rfl⟩:=hv
   cases hva:lv M a with
   | false =>
     simp -implicitDefEqProofs (disch:=omega) only [go_sem,↓reduceIte,reduceCtorEq,rA,rq,rL,x13,y13,lC,lN,true_and,and_true,hk0,hlt,Int.toNat_natCast,hput,hrl,Yp,hw1,Bool.false_and]
     refine ⟨_,_,Qi6 _,ve,vr,vb,vm,t'+1,K2,by omega,hK2,rfl,?_⟩
     simp -implicitDefEqProofs (disch:=omega) only [go_sem,↓reduceIte,reduceCtorEq,rq]
   | true =>
     simp -implicitDefEqProofs (disch:=omega) only [go_sem,↓reduceIte,reduceCtorEq,rA,rq,QK,x16,lC,lN,true_implies,and_true]
     refine QlB hT XF (hIb _ _) 1000 fun v σ hv=>?_
     obtain ⟨rfl,rfl⟩:=hv
     simp -implicitDefEqProofs (disch:=omega) only [go_sem,↓reduceIte,reduceCtorEq,rA,rq,rL,x13,y13,lC,lN,true_and,and_true,hk0,hlt,Int.toNat_natCast,hput,hrl,Yp,hw1]
     refine ⟨_,_,Qi6 _,ve,vr,vb,vm,t'+1,K2,by omega,hK2,rfl,?_⟩
     simp -implicitDefEqProofs (disch:=omega) only [go_sem,↓reduceIte,reduceCtorEq,rq]
 ·rcases Nat.eq_zero_or_pos i with hi0 | hi0
  ·exfalso
   subst hi0
   have:=hw.hd
   rw [hx] at this
   cases this
  obtain ⟨la,lb⟩:=har hi0 (by decide)
  rw [← hMl] at la lb
  have hgv:gv (Qbp Sy C' g.L) M ⟨2,a,b⟩=(lv M a != lv M b):=rfl
  have la':=QcF la (show M.length≤(QqI M S.gs.length).length by omega)
  have lb':=QcF lb (show M.length≤(QqI M S.gs.length).length by omega)
  have hIa:=fun t ex=>k_is (P:=P) (G:=G) (base:=17) (t:=t) (g:=g) (B:=B) (S:=S) (K:=K) (E:=E) (vr:=vr) (vb:=vb) (z:=none) (T:=4) (T2:=49) (ex:=ex) (o12:=some (.arr ve 26 [.lst 1 (Qb Sy) tS,.lst 4 (C'.map Cl.v) tC])) hT la' (by omega)
  have hIb:=fun t ex=>k_is (P:=P) (G:=G) (base:=17) (t:=t) (g:=g) (B:=B) (S:=S) (K:=K) (E:=E) (vr:=vr) (vb:=vb) (z:=none) (T:=4) (T2:=49) (ex:=ex) (o12:=some (.arr ve 26 [.lst 1 (Qb Sy) tS,.lst 4 (C'.map Cl.v) tC])) hT lb' (by omega)
  rw [Qm9 la,hrl] at hIa
  rw [Qm9 lb,hrl] at hIb
  rw [hgv]
  simp -implicitDefEqProofs (disch:=omega) only [go_sem,↓reduceIte,reduceCtorEq,rA,rq,rL,rT,Int.reduceEq,b_7,b_8,QK,X0,x12,x13,x14,x15,x16,y13,y16,lC,lN,cA,nA,false_implies,true_implies,true_and,and_true,hki,hk0,hlt,Int.toNat_natCast,gx,hgl3,c2]
  refine QlB hT XF (hIa _ _) 1000 fun v σ hv=>?_
  obtain ⟨rfl,rfl⟩:=hv
  simp -implicitDefEqProofs (disch:=omega) only [go_sem,↓reduceIte,reduceCtorEq,rA,rq,QK,lC,lN]
  refine QlB hT XF (hIb _ _) 1000 fun v σ hv=>?_
  obtain ⟨rfl,rfl⟩:=hv
  cases hva:lv M a <;> cases hvb:lv M b <;>
  ·simp -implicitDefEqProofs (disch:=omega) only [go_sem,↓reduceIte,reduceCtorEq,rq,rL,x13,y13,lC,lN,true_and,and_true,hk0,hlt,Int.toNat_natCast,hput,hrl,Yp,hw1]
   first
    | refine ⟨_,_,Qi6 _,ve,vr,vb,vm,t'+1,K2,by omega,hK2,rfl,?_⟩
      simp -implicitDefEqProofs (disch:=omega) only [go_sem,↓reduceIte,reduceCtorEq,rq]
theorem QK4 {Sy:List Int} {tS:Bool} {C':List Cl} {tC:Bool} (hi:i=S.gs.length) (hJ:moJ g B S K E t Sy tS C' tC i fr σ) :
 W P G 106 5 wd fr σ (Qbb (fun _ _=>False) (moE g B S K E t Sy C')):=by
 obtain ⟨ve,vr,vb,vm,t',K2,ht,hK2,rfl,f0,f3,f5,f6,f7,f25,f26,f27⟩:=hJ
 rw [hi,List.take_length]
 have e:QqI (mdl (Qbp Sy C' g.L) S.gs) S.gs.length=mdl (Qbp Sy C' g.L) S.gs:=by
  unfold QqI
  rw [Zi,Nat.sub_self,List.replicate_zero,List.append_nil]
 rw [e]
 unfold moE
 refine Qh [(0,.ptr 7 g.b 0),(3,.ptr 12 ve 0),(5,.ptr 14 vb 0),(6,.fn (.func XK) [] [.ptr 14 vb 0]),(7,.mp 15 vm),(25,.sl 8 B.g 0 3 S.gs.length none),(26,.int .i64 S.gs.length),(27,.int .i64 ((i:Nat):Int))] ⟨f0,f3,f5,f6,f7,f25,f26,f27,trivial⟩  1000 ?_
 simp -implicitDefEqProofs (disch:=omega) only [go_sem,↓reduceIte,reduceCtorEq,rq,hi,Int.lt_irrefl]
 first | exact ⟨_,vr,vb,_,t',ht,rfl⟩ | exact ⟨_,vr,vb,_,t',ht,rfl,rfl⟩ | exact ⟨_,vr,vb,_,t',ht,⟨rfl,rfl⟩,rfl⟩
theorem QxD (hT:Qe P tab) (SO:Q1 P) (hL:g.L.length≤1000000) (hok:okN g.L) (Sy:List Int) (hS:∀ x∈Sy,i64 x) (tS:Bool) (C':List Cl) (hC:C'.length≤1000000) (hCn:∀ c∈C',i64 c.n) (tC:Bool) (hw:Wf S.gs) (hgl:S.gs.length≤9000000) :
 C P G 5 Xf [.ptr 7 g.b 0,QiX Sy tS 4 C' tC] ⟨t,bH g B S K E⟩ fun v σ=>∃ u t' o1,t≤t'∧v=.sl 13 u 0 1 S.gs.length none∧σ=⟨t',bH g B S K E++[o1,some (.arr u 4 (nbs (mdl (Qbp Sy C' g.L) S.gs)))]⟩:=by
 refine Qj 14 (by decide) (Qo hT QM (by simp [XC]) (Qm 1000 ?_))
 simp -implicitDefEqProofs (disch:=omega) only [go_sem,↓reduceIte,reduceCtorEq,rA,rq,rL,b_7,Q8,QK,X0,x14,y14,lC,lN,cA,nA,true_implies,true_and,and_true,QiX]
 have e1:(List.replicate S.gs.length [V.bool false]).flatten=nbs (QqI (mdl (Qbp Sy C' g.L) (S.gs.take 0)) S.gs.length):=by
  simp [QqI,nbs,mdl]
 rw [e1]
 refine Yn S.gs (moJ g B S K E t Sy tS C' tC) (moE g B S K E t Sy C') ⟨t,t+1,t+1+1,t+1+1+1,t+1+1+1+1,[],by omega,(fun p hp=>by cases hp),rfl,by simp -implicitDefEqProofs (disch:=omega) only [go_sem,↓reduceIte],by simp -implicitDefEqProofs (disch:=omega) only [go_sem,↓reduceIte,reduceCtorEq,rq],by simp -implicitDefEqProofs (disch:=omega) only [go_sem,↓reduceIte,reduceCtorEq,rq],by simp -implicitDefEqProofs (disch:=omega) only [go_sem,↓reduceIte,reduceCtorEq,rq],by simp -implicitDefEqProofs (disch:=omega) only [go_sem,↓reduceIte,reduceCtorEq,rq],by simp -implicitDefEqProofs (disch:=omega) only [go_sem,↓reduceIte,reduceCtorEq,rq],by simp -implicitDefEqProofs (disch:=omega) only [go_sem,↓reduceIte,reduceCtorEq,rq],by simp -implicitDefEqProofs (disch:=omega) only [go_sem,↓reduceIte,reduceCtorEq,rq]; rfl⟩ (fun i x hx fr σ hJ=>QzP hT SO hL hok Sy hS tS C' hC hCn tC hw hgl hx hJ) (fun i hi fr σ hJ=>QK4 hi hJ) (fun e fr σ hE=>?_)
 obtain ⟨rfl,o1,vr,vb,o2,t',ht,rfl,f5⟩:=hE
 refine Qg 1000 ?_
 simp -implicitDefEqProofs (disch:=omega) only [go_sem,↓reduceIte,rA,rq,rL,QK,x14,lC,lN,true_implies,true_and,and_true,f5]
 first | exact ⟨vr,t',o1,ht,rfl,rfl,rfl⟩ | exact ⟨by omega,vr,t',o1,ht,rfl,rfl,rfl⟩
end
section
attribute [local go_sem] lR Nat.mul_one zA Option.getD_some beq_self_eq_true Ym QHv QHu QHt QHs QHr QHq QHp QHo decide_false decide_true gt_iff_lt Q3
def sh (k:Nat):Int:=IntKind.i64.wrap (2 ^ k)
def tlS (M:List Bool) (x:List Int):Nat→Int
 | 0=>0
 | k+1=>if lv M (gi x k)=true then orI .i64 (tlS M x k) (sh k) else tlS M x k
theorem bit_sh {k j:Nat} (hj:j<64):Zc (sh k) j=decide (j=k):=by
 unfold sh
 rw [Qhq (Qnz _) hj]
 unfold Zc
 rw [show (2:Int) ^ k=1 * 2 ^ k by rw [Int.one_mul],QtG]
 split
 ·rename_i h
  rw [decide_eq_false (by omega),decide_eq_false (by omega)]
 ·rename_i h
  by_cases hjk:j=k
  ·subst hjk; simp
  ·have:(1:Int) / 2 ^ (j - k)=0:=Int.ediv_eq_zero_of_lt (by omega) (by
    rw [show j - k=(j - k - 1)+1 by omega,Int.pow_succ]
    have:=Ya (j - k - 1); omega)
   rw [this,decide_eq_false (by omega),decide_eq_false hjk]
theorem QKT (a b:Int):Qll (orI .i64 a b):=by
 unfold Qll orI
 rw [IntKind.wrap_i64]
 omega
theorem tl_up {M:List Bool} {x:List Int} {a:Int} (t:Tl M x a):∀ k,k≤64→Qll (tlS M x k)∧∀ j,j<64→Zc (tlS M x k) j=(decide (j<k)&&Zc a j)
 | 0,_=>⟨by unfold tlS Qll; omega,fun j _=>by rw [tlS,QlE]; simp⟩
 | k+1,hk=>by
   obtain ⟨h1,h2⟩:=tl_up t k (by omega)
   rw [tlS]
   split
   ·rename_i hl
    rw [t k (by omega)] at hl
    refine ⟨QKT _ _,fun j hj=>?_⟩
    rw [QIF _ _ hj,h2 j hj,bit_sh hj]
    by_cases hjk:j=k
    ·subst hjk; rw [hl]; simp
    ·rw [decide_eq_false hjk,Bool.or_false]
     congr 1
     simp only [decide_eq_decide]; omega
   ·rename_i hl
    rw [t k (by omega),Bool.not_eq_true] at hl
    refine ⟨h1,fun j hj=>?_⟩
    rw [h2 j hj]
    by_cases hjk:j=k
    ·subst hjk; rw [hl]; simp
    ·congr 1
     simp only [decide_eq_decide]; omega
variable {x:List Int} {M:List Bool}
theorem tl_val {a:Int} (t:Tl M x a) (ha:Qll a):tlS M x 64=a:=by
 obtain ⟨h1,h2⟩:=tl_up t 64 (lR _)
 have:cg (tlS M x 64) a:=QtF.1 fun k hk=>by rw [h2 k hk,decide_eq_true hk,Bool.true_and]
 unfold cg at this
 unfold Qll at ha h1
 omega
theorem QLg (hT:Qe P tab) {base:Nat} {g:Gr} {B:Bv} {S:St} {K:List (Int × List Int)} {E:Ev} {t vb vm:Nat} {ex:List (Option Ob)} {T T2:Nat} {id:Int} (hx:kL K id=some x) (nx:Nb M.length x) (hM:M.length≤100000000) :
 C P G base Qq [.int .i64 id,.ptr 12 vb 0,.ptr 13 vm 0] ⟨t,bH g B S K E++some (.arr vb T [.ptr 7 g.b 0])::some (.arr vm T2 [.lst 1 (nbs M) false])::ex⟩ fun v σ=>v=.int .i64 (tlS M x 64)∧σ=⟨t,bH g B S K E++some (.arr vb T [.ptr 7 g.b 0])::some (.arr vm T2 [.lst 1 (nbs M) false])::ex⟩:=by
 refine Qo hT YF (by simp [Ym]) (Qm 1000 ?_)
 simp -implicitDefEqProofs (disch:=omega) only [go_sem,↓reduceIte,reduceCtorEq,rA,rq,rL,ZY,Xr,b_6,b_7,x12,lC,lN,true_implies,and_true,hx]
 refine XQ 64 (fun k fr σ=>σ=⟨t,bH g B S K E++some (.arr vb T [.ptr 7 g.b 0])::some (.arr vm T2 [.lst 1 (nbs M) false])::ex⟩∧Qd fr 2=.ptr 13 vm 0∧Qd fr 4=.int .i64 (tlS M x k)∧Qd fr 12=.agg (Qb x)∧Qd fr 13=.int .i64 ((k:Nat):Int))
  (fun e fr σ=>e=.ex 0∧σ=⟨t,bH g B S K E++some (.arr vb T [.ptr 7 g.b 0])::some (.arr vm T2 [.lst 1 (nbs M) false])::ex⟩∧Qd fr 4=.int .i64 (tlS M x 64)) ⟨rfl,by simp -implicitDefEqProofs (disch:=omega) only [go_sem,↓reduceIte,reduceCtorEq,rq],by simp -implicitDefEqProofs (disch:=omega) only [go_sem,↓reduceIte,reduceCtorEq,rq]; rfl,by simp -implicitDefEqProofs (disch:=omega) only [go_sem,↓reduceIte,reduceCtorEq,rq],by simp -implicitDefEqProofs (disch:=omega) only [go_sem,↓reduceIte,reduceCtorEq,rq]; rfl⟩ (fun k hk fr σ hJ=>?_) (fun k hk fr σ hJ=>?_) (fun e fr σ hE=>?_)
 ·obtain ⟨rfl,f2,f4,f12,f13⟩:=hJ
  have hki:(k:Int)<64:=by omega
  have hk0:(0:Int)≤(k:Int):=by omega
  have gx:=nx.lts hk
  have hw:=w_k hk
  obtain ⟨l0,l1,l2⟩:=nx.all k hk
  have hstep:tlS M x (k+1)=if lv M (gi x k)=true then orI .i64 (tlS M x k) (sh k) else tlS M x k:=rfl
  have hsh:IntKind.i64.wrap (1 * 2 ^ min k 64)=sh k:=by rw [Nat.min_eq_left (by omega),Int.one_mul]; rfl
  have hsh2:IntKind.i64.wrap (2 ^ min k 64)=sh k:=by rw [Nat.min_eq_left (by omega)]; rfl
  generalize gi x k=l at *
  have e1:IntKind.i64.wrap (0 - l)=-l:=by rw [wrap_i64 (by omega) (by omega)]; omega
  unfold lv at hstep
  refine Qh [(2,.ptr 13 vm 0),(4,.int .i64 (tlS M x k)),(12,.agg (Qb x)),(13,.int .i64 ((k:Nat):Int))] ⟨f2,f4,f12,f13,trivial⟩  1000 ?_
  by_cases hn:l<0
  ·have e2:(if l < -l then -l else l)=-l:=if_pos (by omega)
   have e3:IntKind.i64.wrap (-l - 1)=-l - 1:=by rw [wrap_i64 (by omega) (by omega)]
   have e4:(0:Int)≤-l - 1:=by omega
   have e5:-l - 1<(M.length:Int):=by omega
   have e6:=Qbs (M:=M) (i:=(-l - 1).toNat) (by omega)
   have e7:(-l - 1).toNat<M.length:=by omega
   have e8:¬ 0<l:=by omega
   have e9:decide (0<l)=false:=decide_eq_false e8
   rw [if_pos hn] at hstep
   cases hb:M.getD (-l - 1).toNat false <;> rw [hb] at hstep e6 <;> simp only [nT,nFq,if_true,Bool.false_eq_true,if_false] at hstep <;>
   ·simp -implicitDefEqProofs (disch:=omega) only [go_sem,↓reduceIte,reduceCtorEq,rq,rL,x13,lC,lN,false_implies,true_implies,true_and,and_true,hki,hk0,Int.toNat_natCast,gx,e1,e2,e3,e4,e6,e7,e8,Yp,hw,hsh,QG nx.len]
    refine ⟨_,_,Shift.refl _ _ _ _,rfl,?_⟩
    simp -implicitDefEqProofs (disch:=omega) only [go_sem,↓reduceIte,rq,hstep]
  ·have e2:(if l < -l then -l else l)=l:=if_neg (by omega)
   have e3:IntKind.i64.wrap (l - 1)=l - 1:=by rw [wrap_i64 (by omega) (by omega)]
   have e4:(0:Int)≤l - 1:=by omega
   have e5:l - 1<(M.length:Int):=by omega
   have e6:=Qbs (M:=M) (i:=(l - 1).toNat) (by omega)
   have e7:(l - 1).toNat<M.length:=by omega
   have e8:0<l:=by omega
   have e9:decide (0<l)=true:=decide_eq_true e8
   rw [if_neg hn] at hstep
   cases hb:M.getD (l - 1).toNat false <;> rw [hb] at hstep e6 <;> simp only [if_true,Bool.false_eq_true,if_false] at hstep <;>
   ·simp -implicitDefEqProofs (disch:=omega) only [go_sem,↓reduceIte,rq,rL,x13,lC,lN,false_implies,true_implies,true_and,and_true,hki,hk0,Int.toNat_natCast,gx,e1,e2,e3,e4,e6,e7,e8,Yp,hw,hsh,QG nx.len]
    refine ⟨_,_,Shift.refl _ _ _ _,rfl,?_⟩
    simp -implicitDefEqProofs (disch:=omega) only [go_sem,↓reduceIte,rq,hstep]
 ·obtain ⟨rfl,f2,f4,f12,f13⟩:=hJ
  have hki:¬ (k:Int)<64:=by omega
  rw [hk] at f4
  refine Qh [(2,.ptr 13 vm 0),(4,.int .i64 (tlS M x 64)),(12,.agg (Qb x)),(13,.int .i64 ((k:Nat):Int))] ⟨f2,f4,f12,f13,trivial⟩ 1000 ?_
  simp -implicitDefEqProofs (disch:=omega) only [go_sem,↓reduceIte,rq,hki]
 ·obtain ⟨rfl,rfl,f4⟩:=hE
  refine Qg 1000 ?_
  simp -implicitDefEqProofs (disch:=omega) only [go_sem,↓reduceIte,rq,f4]
end
end Go.Proofs.YtoeicjlflmmmcaaGreatDoor
