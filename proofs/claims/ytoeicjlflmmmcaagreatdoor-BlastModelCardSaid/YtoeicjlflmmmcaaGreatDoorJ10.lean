/- Contracts: the model of an environment. -/
import Derived.Test.YtoeicjlflmmmcaaGreatDoorJ9
import Derived.Test.YtoeicjlflmmmcaaGreatDoorJ3
import Derived.Test.YtoeicjlflmmmcaaGreatDoorAmD
open Nat renaming reduceEqDiff → rq, reduceAdd → rA, reduceLeDiff → rL, reduceLT → rT, zero_add → zA, le_refl → lR, zero_le → zL, add_zero → aZ
open List renaming length_cons → lC, length_nil → lN, take_succ_cons → tSq, length_append → lA, nil_append → nA, cons_append → cA, append_assoc → aA, take_nil → tN, take_zero → tZ, length_map → lM
open Bool renaming not_false → nFq, not_true → nT
namespace Go.Proofs.YtoeicjlflmmmcaaGreatDoor
open Go Go.Am Go.Bl
set_option maxRecDepth 100000
variable {P:Program} {G:Nat→Option V} {cap:Nat}
set_option maxHeartbeats 1000000
section
attribute [local go_sem] nFq nT aZ lR Nat.mul_one zA Option.getD_none Option.getD_some Option.isSome_none Option.isSome_some beq_self_eq_true XZ Xo zqv_0 zqv_1 zqv_2 zqv_3 zqc_0 zqc_1 Qoz Qoy Qox Qow Qov Qou Qot Qos Qor Qoq zqc_2 QvY zqc_3 zqc_4 zqc_5 zqc_6 Qt0 QtZ QtY bne_self_eq_false decide_false decide_true ge_iff_le gt_iff_lt Xq
def nbs (M:List Bool):List V:=M.map V.bool
theorem Ym (M:List Bool):(nbs M).length=M.length:=by simp [nbs]
variable {i base t n:Nat} {M:List Bool}
theorem Qbo (h:i<M.length):(nbs M).getD i V.any=.bool (M.getD i false):=by
 rw [List.getD_eq_getElem?_getD,List.getD_eq_getElem?_getD,nbs,List.getElem?_map,List.getElem?_eq_getElem h]; rfl
variable {l x:Int} {E:Ev} {K:List (Int × List Int)} {S:St} {B:Bv} {g:Gr}
theorem k_is (hT:Qe P tab) {vr vb:Nat} {z:Option Nat} {o12:Option Ob} {ex:List (Option Ob)} {T T2:Nat} (hl:lit M.length l) (hM:M.length≤100000000) :
 C P G base Q8 [.int .i64 l,.ptr 14 vb 0] ⟨t,bH g B S K E++o12::some (.arr vr T (nbs M))::some (.arr vb T2 [.sl 13 vr 0 1 M.length z])::ex⟩ fun v σ=>v=.bool (lv M l)∧σ=⟨t,bH g B S K E++o12::some (.arr vr T (nbs M))::some (.arr vb T2 [.sl 13 vr 0 1 M.length z])::ex⟩:=by
 obtain ⟨h0,h1,h2⟩:=hl
 refine Qq hT Q6 (by simp [Xo]) (Qn 1000 ?_)
 unfold lv
 by_cases hn:l<0
 ·have e1:IntKind.i64.wrap (0 - l)=-l:=by rw [wrap_i64 (by omega) (by omega)]; omega
  have e2:IntKind.i64.wrap (-l - 1)=-l - 1:=by rw [wrap_i64 (by omega) (by omega)]
  have e3:(0:Int)≤-l - 1:=by omega
  have e4:-l - 1<(M.length:Int):=by omega
  have e5:=Qbo (M:=M) (i:=(-l - 1).toNat) (by omega)
  have e6:(-l - 1).toNat<M.length:=by omega
  rw [if_pos hn]
  simp -implicitDefEqProofs (disch:=omega) only [go_sem,↓reduceIte,reduceCtorEq,rq,x13,x14,lC,lN,true_implies,true_and,and_true,hn,e1,e2,e3,e5,e6,Ym]
 ·have e2:IntKind.i64.wrap (l - 1)=l - 1:=by rw [wrap_i64 (by omega) (by omega)]
  have e3:(0:Int)≤l - 1:=by omega
  have e4:l - 1<(M.length:Int):=by omega
  have e5:=Qbo (M:=M) (i:=(l - 1).toNat) (by omega)
  have e6:(l - 1).toNat<M.length:=by omega
  rw [if_neg hn]
  simp -implicitDefEqProofs (disch:=omega) only [go_sem,↓reduceIte,reduceCtorEq,rq,x13,x14,lC,lN,true_implies,true_and,and_true,hn,e2,e3,e5,e6,Ym]
def voI (S:List Int) (C':List Cl) (L:List Nd) (x:Int):Int:=if 0≤x∧x<L.length then val S C' L x else 0
def QbU (S:List Int) (C':List Cl) (L:List Nd) (a b:Int):Bool:=YA (voI S C' L a) b.toNat
theorem ofV_vo (S:List Int) (C':List Cl) (L:List Nd) (x:Int):∃ b,ofV S C' L x=.tup [.int .i64 (voI S C' L x),.bool b]:=by
 unfold ofV voI
 split
 ·exact ⟨true,rfl⟩
 ·exact ⟨false,rfl⟩
theorem x_Of (hT:Qe P tab) (SO:Xb P) {ex:List (Option Ob)} (hL:g.L.length≤1000000) (hok:okN g.L) (Sy:List Int) (hS:∀ x∈Sy,i64 x) (tS:Bool) (C':List Cl) (hC:C'.length≤1000000) (hCn:∀ c∈C',i64 c.n) (tC:Bool) (x:Int) :
 C P G base QbF [.ptr 1 g.v0 0,QhC Sy tS 4 C' tC,.int .i64 x] ⟨t,bH g B S K E++ex⟩ fun v σ=>v=ofV Sy C' g.L x∧∃ t',t≤t'∧σ=⟨t',bH g B S K E++ex⟩:=by
 rw [QnQ]
 exact k_Of hT SO hL hok Sy hS tS C' hC hCn tC x
theorem gC_at:∀ {gs:List Gt} {i:Nat} {x:Gt},gs[i]?=some x→List.take 3 (List.drop (i * 3) (gC gs))=Gtc x
 | g::gs,0,x,h=>by cases h; rfl
 | g::gs,i+1,x,h=>by
   have e:gC (g::gs)=Gtc g++gC gs:=rfl
   rw [e,show (i+1) * 3=3+i * 3 by omega,← List.drop_drop]
   exact gC_at (gs:=gs) (i:=i) h
def QmU (M:List Bool) (n:Nat):List Bool:=M++List.replicate (n - M.length) false
theorem Qus (h:M.length≤n):(QmU M n).length=n:=by simp [QmU]; omega
theorem Qur {b:Bool} (hi:M.length=i) (h:i<n):List.take i (nbs (QmU M n))++[.bool b]++List.drop (i+1) (nbs (QmU M n))=nbs (QmU (M++[b]) n):=by
 subst hi
 unfold QmU nbs
 rw [List.map_append,List.take_append_of_le_length (by simp),List.take_of_length_le (by simp),List.drop_append,List.drop_eq_nil_of_le (by simp),nA,List.map_replicate,List.drop_replicate]
 simp
 omega
theorem Qkk (h:lit M.length l):lv (QmU M n) l=lv M l:=QBE h
variable {K2:List (Int × Int)}
theorem kEs_vo {f:Int→Int} (h:∀ p∈K2,p.2=f p.1) {v:Int} (hk:kAt K2 x=some v):v=f x:=by
 unfold kAt at hk
 cases hf:K2.find? fun p=>decide (x=p.1) with
 | none=>rw [hf] at hk; cases hk
 | some p =>
   rw [hf] at hk
   cases hk
   have:=List.find?_some hf
   rw [of_decide_eq_true this]
   exact h p (List.mem_of_find?_eq_some hf)
theorem QuZ (hk:kAt K2 x=none):x ∉ K2.map (·.1):=by
 intro hm
 obtain ⟨p,hp,rfl⟩:=List.mem_map.1 hm
 unfold kAt at hk
 rw [Option.map_eq_none_iff] at hk
 exact absurd (List.find?_eq_none.1 hk p hp) (by simp)
variable {fr:Fr}
theorem QgO {a b c d:Option Ob} (r:List (Option Ob)):Shift G n 5 fr ⟨t,bH g B S K E++a::b::c::d::r⟩ fr ⟨t,bH g B S K E++[a,b,c,d]⟩ :=
 Shift.drop (Xc 16 (bH g B S K E++a::b::c::d::r)) (lR _) (by rw [QA]; omega)
def moJ (g:Gr) (B:Bv) (S:St) (K:List (Int × List Int)) (E:Ev) (t:Nat) (Sy:List Int) (tS:Bool) (C':List Cl) (tC:Bool) (i:Nat) (fr:Fr) (σ:H):Prop :=
 ∃ ve vr vb vm t' K2,t≤t'∧(∀ p∈K2,p.2=voI Sy C' g.L p.1)∧σ=⟨t',bH g B S K E++[some (.arr ve 26 [.lst 1 (Qb Sy) tS,.lst 4 (C'.map Cl.v) tC]),some (.arr vr 4 (nbs (QmU (mdl (QbU Sy C' g.L) (S.gs.take i)) S.gs.length))),some (.arr vb 49 [.sl 13 vr 0 1 S.gs.length none]),some (.map vm (kEs K2))]⟩∧Qf fr 0=.ptr 7 g.b 0∧Qf fr 3=.ptr 12 ve 0∧Qf fr 5=.ptr 14 vb 0∧Qf fr 6=.fn (.func Q8) [] [.ptr 14 vb 0]∧Qf fr 7=.mp 15 vm∧Qf fr 25=.sl 8 B.g 0 3 S.gs.length none∧Qf fr 26=.int .i64 S.gs.length∧Qf fr 27=.int .i64 ((i:Nat):Int)
def moE (g:Gr) (B:Bv) (S:St) (K:List (Int × List Int)) (E:Ev) (t:Nat) (Sy:List Int) (C':List Cl) (e:AE) (fr:Fr) (σ:H):Prop :=
 e=.ex 0∧∃ o1 vr vb o2 t',t≤t'∧σ=⟨t',bH g B S K E++[o1,some (.arr vr 4 (nbs (mdl (QbU Sy C' g.L) S.gs))),some (.arr vb 49 [.sl 13 vr 0 1 S.gs.length none]),o2]⟩∧Qf fr 5=.ptr 14 vb 0
theorem c0:((0:Nat):Int)=0:=rfl
theorem c1:((1:Nat):Int)=1:=rfl
theorem c2:((2:Nat):Int)=2:=rfl
variable {σ:H}
theorem Quv (hT:Qe P tab) (SO:Xb P) (hL:g.L.length≤1000000) (hok:okN g.L) (Sy:List Int) (hS:∀ x∈Sy,i64 x) (tS:Bool) (C':List Cl) (hC:C'.length≤1000000) (hCn:∀ c∈C',i64 c.n) (tC:Bool) (hw:Wf S.gs) (hgl:S.gs.length≤9000000) {x:Gt} (hx:S.gs[i]?=some x) (hJ:moJ g B S K E t Sy tS C' tC i fr σ) :
 W P G 106 5 wd fr σ (QdW (fun fr σ=>∃ fr' σ',Shift G 106 5 fr σ fr' σ'∧moJ g B S K E t Sy tS C' tC (i+1) fr' σ') (moE g B S K E t Sy C')):=by
 obtain ⟨ve,vr,vb,vm,t',K2,ht,hK2,rfl,f0,f3,f5,f6,f7,f25,f26,f27⟩:=hJ
 have hlt:=(List.getElem?_eq_some_iff.1 hx).1
 have hki:(i:Int)<S.gs.length:=by omega
 have hk0:(0:Int)≤(i:Int):=by omega
 have hw1:IntKind.i64.wrap ((i:Int)+1)=((i+1:Nat):Int):=by rw [wrap_i64 (by omega) (by omega)]; omega
 have gx:=gC_at hx
 have htk:S.gs.take (i+1)=S.gs.take i++[x]:=by rw [List.take_add_one,hx]; rfl
 have hMl:(mdl (QbU Sy C' g.L) (S.gs.take i)).length=i:=by rw [Qa6,List.length_take]; omega
 have hrl:=Qus (M:=mdl (QbU Sy C' g.L) (S.gs.take i)) (n:=S.gs.length) (by omega)
 have hput:=fun b=>Qur (M:=mdl (QbU Sy C' g.L) (S.gs.take i)) (n:=S.gs.length) (b:=b) hMl hlt
 have hnext:mdl (QbU Sy C' g.L) (S.gs.take (i+1))=mdl (QbU Sy C' g.L) (S.gs.take i)++[gv (QbU Sy C' g.L) (mdl (QbU Sy C' g.L) (S.gs.take i)) x]:=by rw [htk,Qo6]
 have hk2:=hw.kd i x hx
 have har:=hw.ar i x hx
 have hin:=hw.inp i x hx
 unfold moJ
 rw [hnext]
 obtain ⟨k,a,b⟩:=x
 simp only at hk2 har hin
 have hgl3:=QBN S.gs
 generalize mdl (QbU Sy C' g.L) (S.gs.take i)=M at *
 simp only [Gtc] at gx
 refine Qm [(0,.ptr 7 g.b 0),(3,.ptr 12 ve 0),(5,.ptr 14 vb 0),(6,.fn (.func Q8) [] [.ptr 14 vb 0]),(7,.mp 15 vm),(25,.sl 8 B.g 0 3 S.gs.length none),(26,.int .i64 S.gs.length),(27,.int .i64 ((i:Nat):Int))] ⟨f0,f3,f5,f6,f7,f25,f26,f27,trivial⟩  1000 ?_
 rcases (show k=0∨k=1∨k=2 by omega) with rfl | rfl | rfl
 ·obtain ⟨b0,b1⟩:=hin rfl
  have he:(Qh5 .i64 ((voI Sy C' g.L a).fdiv (2 ^ min b.toNat 64)) 1==1)=gv (QbU Sy C' g.L) M ⟨0,a,b⟩:=by
   have e1:Qh5 .i64 ((voI Sy C' g.L a).fdiv (2 ^ min b.toNat 64)) 1=voI Sy C' g.L a / 2 ^ b.toNat % 2:=by
    rw [Nat.min_eq_left (by omega),Int.fdiv_eq_ediv_of_nonneg _ (Int.le_of_lt (XB _))]
    exact QnV .i64 1 _ 1 rfl (by decide)
   rw [e1]
   show _=YA _ _
   unfold YA
   rw [Bool.eq_iff_iff,beq_iff_eq,decide_eq_true_eq]
  cases hk:kAt K2 a with
  | some v =>
    have hv:=kEs_vo hK2 hk
    subst hv
    simp -implicitDefEqProofs (disch:=omega) only [go_sem,↓reduceIte,reduceCtorEq,rA,rq,rL,rT,b_8,QA,Xi,x13,x14,x15,x16,y13,y16,lC,lN,cA,nA,false_implies,true_implies,true_and,and_true,hki,hk0,hlt,Int.toNat_natCast,gx,hgl3,c0,QfX,QaT,hk,b0,he,hput,hrl,Ym,hw1]
    refine ⟨_,_,QgO _,ve,vr,vb,vm,t'+1,K2,by omega,hK2,rfl,?_⟩
    simp -implicitDefEqProofs (disch:=omega) only [go_sem,↓reduceIte,reduceCtorEq,rq]
  | none =>
    have hO:=fun t ex=>x_Of (P:=P) (G:=G) (base:=17) (t:=t) (g:=g) (B:=B) (S:=S) (K:=K) (E:=E) (ex:=ex) hT SO hL hok Sy hS tS C' hC hCn tC a
    obtain ⟨q,hq⟩:=ofV_vo Sy C' g.L a
    simp only [QhC,hq] at hO
    have hk2:kAt (K2++[(a,voI Sy C' g.L a)]) a=some (voI Sy C' g.L a):=by rw [Qpf,hk,if_pos rfl]; rfl
    have hpt:=Qo3 (v:=voI Sy C' g.L a) (QuZ hk)
    simp -implicitDefEqProofs (disch:=omega) only [go_sem,↓reduceIte,reduceCtorEq,rA,rq,rL,rT,b_7,b_8,QA,Xi,x12,x15,x16,y16,lC,lN,cA,nA,false_implies,true_implies,true_and,and_true,hki,hk0,hlt,Int.toNat_natCast,gx,hgl3,c0,QfX,QaT,hk]
    refine call hT QaQ (hO _ _) 1000 fun v σ hv=>?_
    obtain ⟨rfl,t1,ht1,rfl⟩:=hv
    simp -implicitDefEqProofs (disch:=omega) only [go_sem,↓reduceIte,reduceCtorEq,rA,rq,rL,rT,x13,x14,x15,x16,y13,y15,lC,lN,true_implies,true_and,and_true,hk0,hlt,Int.toNat_natCast,hpt,QfX,QaT,hk2,b0,he,hput,hrl,Ym,hw1]
    refine ⟨_,_,QgO _,ve,vr,vb,vm,t1,K2++[(a,voI Sy C' g.L a)],by omega,?_,rfl,?_⟩
    ·intro p hp
     rcases List.mem_append.1 hp with hp | hp
     ·exact hK2 p hp
     ·rw [List.mem_singleton.1 hp]
    simp -implicitDefEqProofs (disch:=omega) only [go_sem,↓reduceIte,reduceCtorEq,rq]
 ·rcases Nat.eq_zero_or_pos i with hi0 | hi0
  ·have hem:M=[]:=List.eq_nil_of_length_eq_zero (by omega)
   have hgv:gv (QbU Sy C' g.L) M ⟨1,a,b⟩=true:=by rw [hem]; rfl
   have hii:((i:Nat):Int)=0:=by omega
   have hi2:((i:Int)==0)=true:=beq_iff_eq.2 hii
   have hi1:decide ((i:Int)=0)=true:=decide_eq_true hii
   rw [hgv]
   simp -implicitDefEqProofs (disch:=omega) only [go_sem,↓reduceIte,reduceCtorEq,rA,rq,rL,rT,Int.reduceEq,b_7,b_8,QA,Xi,x12,x13,x14,x15,x16,y13,y16,lC,lN,cA,nA,false_implies,true_implies,true_and,and_true,hki,hk0,hlt,Int.toNat_natCast,gx,hgl3,c1,hi2,hput,hrl,Ym,hw1]
   first
    | refine ⟨_,_,QgO _,ve,vr,vb,vm,t'+1,K2,by omega,hK2,rfl,?_⟩
      simp -implicitDefEqProofs (disch:=omega) only [go_sem,↓reduceIte,reduceCtorEq,rq]
   
  ·obtain ⟨la,lb⟩:=har hi0 (by decide)
   rw [← hMl] at la lb
   have hne:M.isEmpty=false:=by
    rw [List.isEmpty_eq_false_iff]
    intro h0
    rw [h0] at hMl
    simp at hMl; omega
   have hgv:gv (QbU Sy C' g.L) M ⟨1,a,b⟩=(lv M a&&lv M b):=by
    show (M.isEmpty || (lv M a&&lv M b))=_
    rw [hne,Bool.false_or]
   have hi1:¬ (i:Int)=0:=by omega
   have hi2:((i:Int)==0)=false:=beq_eq_false_iff_ne.2 hi1
   have la':=Qbi la (show M.length≤(QmU M S.gs.length).length by omega)
   have lb':=Qbi lb (show M.length≤(QmU M S.gs.length).length by omega)
   have hIa:=fun t ex=>k_is (P:=P) (G:=G) (base:=17) (t:=t) (g:=g) (B:=B) (S:=S) (K:=K) (E:=E) (vr:=vr) (vb:=vb) (z:=none) (T:=4) (T2:=49) (ex:=ex) (o12:=some (.arr ve 26 [.lst 1 (Qb Sy) tS,.lst 4 (C'.map Cl.v) tC])) hT la' (by omega)
   have hIb:=fun t ex=>k_is (P:=P) (G:=G) (base:=17) (t:=t) (g:=g) (B:=B) (S:=S) (K:=K) (E:=E) (vr:=vr) (vb:=vb) (z:=none) (T:=4) (T2:=49) (ex:=ex) (o12:=some (.arr ve 26 [.lst 1 (Qb Sy) tS,.lst 4 (C'.map Cl.v) tC])) hT lb' (by omega)
   rw [Qkk la,hrl] at hIa
   rw [Qkk lb,hrl] at hIb
   rw [hgv]
   simp -implicitDefEqProofs (disch:=omega) only [go_sem,↓reduceIte,reduceCtorEq,rA,rq,rL,rT,Int.reduceEq,b_7,b_8,QA,Xi,x12,x13,x14,x15,x16,y13,y16,lC,lN,cA,nA,false_implies,true_implies,true_and,and_true,hki,hk0,hlt,Int.toNat_natCast,gx,hgl3,c1,hi2]
   refine Qjm hT Q6 (hIa _ _) 1000 fun v σ hv=>?_
   obtain ⟨rfl,rfl⟩:=hv
   cases hva:lv M a with
   | false =>
     simp -implicitDefEqProofs (disch:=omega) only [go_sem,↓reduceIte,reduceCtorEq,rA,rq,rL,x13,y13,lC,lN,true_and,and_true,hk0,hlt,Int.toNat_natCast,hput,hrl,Ym,hw1,Bool.false_and]
     refine ⟨_,_,QgO _,ve,vr,vb,vm,t'+1,K2,by omega,hK2,rfl,?_⟩
     simp -implicitDefEqProofs (disch:=omega) only [go_sem,↓reduceIte,reduceCtorEq,rq]
   | true =>
     simp -implicitDefEqProofs (disch:=omega) only [go_sem,↓reduceIte,reduceCtorEq,rA,rq,QA,x16,lC,lN,true_implies,and_true]
     refine Qjm hT Q6 (hIb _ _) 1000 fun v σ hv=>?_
     obtain ⟨rfl,rfl⟩:=hv
     simp -implicitDefEqProofs (disch:=omega) only [go_sem,↓reduceIte,reduceCtorEq,rA,rq,rL,x13,y13,lC,lN,true_and,and_true,hk0,hlt,Int.toNat_natCast,hput,hrl,Ym,hw1]
     refine ⟨_,_,QgO _,ve,vr,vb,vm,t'+1,K2,by omega,hK2,rfl,?_⟩
     simp -implicitDefEqProofs (disch:=omega) only [go_sem,↓reduceIte,reduceCtorEq,rq]
 ·rcases Nat.eq_zero_or_pos i with hi0 | hi0
  ·exfalso
   subst hi0
   have:=hw.hd
   rw [hx] at this
   cases this
  obtain ⟨la,lb⟩:=har hi0 (by decide)
  rw [← hMl] at la lb
  have hgv:gv (QbU Sy C' g.L) M ⟨2,a,b⟩=(lv M a != lv M b):=rfl
  have la':=Qbi la (show M.length≤(QmU M S.gs.length).length by omega)
  have lb':=Qbi lb (show M.length≤(QmU M S.gs.length).length by omega)
  have hIa:=fun t ex=>k_is (P:=P) (G:=G) (base:=17) (t:=t) (g:=g) (B:=B) (S:=S) (K:=K) (E:=E) (vr:=vr) (vb:=vb) (z:=none) (T:=4) (T2:=49) (ex:=ex) (o12:=some (.arr ve 26 [.lst 1 (Qb Sy) tS,.lst 4 (C'.map Cl.v) tC])) hT la' (by omega)
  have hIb:=fun t ex=>k_is (P:=P) (G:=G) (base:=17) (t:=t) (g:=g) (B:=B) (S:=S) (K:=K) (E:=E) (vr:=vr) (vb:=vb) (z:=none) (T:=4) (T2:=49) (ex:=ex) (o12:=some (.arr ve 26 [.lst 1 (Qb Sy) tS,.lst 4 (C'.map Cl.v) tC])) hT lb' (by omega)
  rw [Qkk la,hrl] at hIa
  rw [Qkk lb,hrl] at hIb
  rw [hgv]
  simp -implicitDefEqProofs (disch:=omega) only [go_sem,↓reduceIte,reduceCtorEq,rA,rq,rL,rT,Int.reduceEq,b_7,b_8,QA,Xi,x12,x13,x14,x15,x16,y13,y16,lC,lN,cA,nA,false_implies,true_implies,true_and,and_true,hki,hk0,hlt,Int.toNat_natCast,gx,hgl3,c2]
  refine Qjm hT Q6 (hIa _ _) 1000 fun v σ hv=>?_
  obtain ⟨rfl,rfl⟩:=hv
  simp -implicitDefEqProofs (disch:=omega) only [go_sem,↓reduceIte,reduceCtorEq,rA,rq,QA,lC,lN]
  refine Qjm hT Q6 (hIb _ _) 1000 fun v σ hv=>?_
  obtain ⟨rfl,rfl⟩:=hv
  cases hva:lv M a <;> cases hvb:lv M b <;>
  ·simp -implicitDefEqProofs (disch:=omega) only [go_sem,↓reduceIte,reduceCtorEq,rq,rL,x13,y13,lC,lN,true_and,and_true,hk0,hlt,Int.toNat_natCast,hput,hrl,Ym,hw1]
   first
    | refine ⟨_,_,QgO _,ve,vr,vb,vm,t'+1,K2,by omega,hK2,rfl,?_⟩
      simp -implicitDefEqProofs (disch:=omega) only [go_sem,↓reduceIte,reduceCtorEq,rq]
   
theorem QC2 {Sy:List Int} {tS:Bool} {C':List Cl} {tC:Bool} (hi:i=S.gs.length) (hJ:moJ g B S K E t Sy tS C' tC i fr σ) :
 W P G 106 5 wd fr σ (QdW (fun _ _=>False) (moE g B S K E t Sy C')):=by
 obtain ⟨ve,vr,vb,vm,t',K2,ht,hK2,rfl,f0,f3,f5,f6,f7,f25,f26,f27⟩:=hJ
 rw [hi,List.take_length]
 have e:QmU (mdl (QbU Sy C' g.L) S.gs) S.gs.length=mdl (QbU Sy C' g.L) S.gs:=by
  unfold QmU
  rw [Qa6,Nat.sub_self,List.replicate_zero,List.append_nil]
 rw [e]
 unfold moE
 refine Qm [(0,.ptr 7 g.b 0),(3,.ptr 12 ve 0),(5,.ptr 14 vb 0),(6,.fn (.func Q8) [] [.ptr 14 vb 0]),(7,.mp 15 vm),(25,.sl 8 B.g 0 3 S.gs.length none),(26,.int .i64 S.gs.length),(27,.int .i64 ((i:Nat):Int))] ⟨f0,f3,f5,f6,f7,f25,f26,f27,trivial⟩  1000 ?_
 simp -implicitDefEqProofs (disch:=omega) only [go_sem,↓reduceIte,reduceCtorEq,rq,hi,Int.lt_irrefl]
 first | exact ⟨_,vr,vb,_,t',ht,rfl⟩ | exact ⟨_,vr,vb,_,t',ht,rfl,rfl⟩ | exact ⟨_,vr,vb,_,t',ht,⟨rfl,rfl⟩,rfl⟩
theorem QDo (hT:Qe P tab) (SO:Xb P) (hL:g.L.length≤1000000) (hok:okN g.L) (Sy:List Int) (hS:∀ x∈Sy,i64 x) (tS:Bool) (C':List Cl) (hC:C'.length≤1000000) (hCn:∀ c∈C',i64 c.n) (tC:Bool) (hw:Wf S.gs) (hgl:S.gs.length≤9000000) :
 C P G 5 Yg [.ptr 7 g.b 0,QhC Sy tS 4 C' tC] ⟨t,bH g B S K E⟩ fun v σ=>∃ u t' o1,t≤t'∧v=.sl 13 u 0 1 S.gs.length none∧σ=⟨t',bH g B S K E++[o1,some (.arr u 4 (nbs (mdl (QbU Sy C' g.L) S.gs)))]⟩:=by
 refine Qh 14 (by decide) (Qq hT Yd (by simp [XZ]) (Qn 1000 ?_))
 simp -implicitDefEqProofs (disch:=omega) only [go_sem,↓reduceIte,reduceCtorEq,rA,rq,rL,b_7,QK,QA,Xi,x14,y14,lC,lN,cA,nA,true_implies,true_and,and_true,QhC]
 have e1:(List.replicate S.gs.length [V.bool false]).flatten=nbs (QmU (mdl (QbU Sy C' g.L) (S.gs.take 0)) S.gs.length):=by
  simp [QmU,nbs,mdl]
 rw [e1]
 refine ZF S.gs (moJ g B S K E t Sy tS C' tC) (moE g B S K E t Sy C') ⟨t,t+1,t+1+1,t+1+1+1,t+1+1+1+1,[],by omega,(fun p hp=>by cases hp),rfl,by simp -implicitDefEqProofs (disch:=omega) only [go_sem,↓reduceIte],by simp -implicitDefEqProofs (disch:=omega) only [go_sem,↓reduceIte,reduceCtorEq,rq],by simp -implicitDefEqProofs (disch:=omega) only [go_sem,↓reduceIte,reduceCtorEq,rq],by simp -implicitDefEqProofs (disch:=omega) only [go_sem,↓reduceIte,reduceCtorEq,rq],by simp -implicitDefEqProofs (disch:=omega) only [go_sem,↓reduceIte,reduceCtorEq,rq],by simp -implicitDefEqProofs (disch:=omega) only [go_sem,↓reduceIte,reduceCtorEq,rq],by simp -implicitDefEqProofs (disch:=omega) only [go_sem,↓reduceIte,reduceCtorEq,rq],by simp -implicitDefEqProofs (disch:=omega) only [go_sem,↓reduceIte,reduceCtorEq,rq]; rfl⟩ (fun i x hx fr σ hJ=>Quv hT SO hL hok Sy hS tS C' hC hCn tC hw hgl hx hJ) (fun i hi fr σ hJ=>QC2 hi hJ) (fun e fr σ hE=>?_)
 obtain ⟨rfl,o1,vr,vb,o2,t',ht,rfl,f5⟩:=hE
 refine Qs 1000 ?_
 simp -implicitDefEqProofs (disch:=omega) only [go_sem,↓reduceIte,rA,rq,rL,QA,x14,lC,lN,true_implies,true_and,and_true,f5]
 first | exact ⟨vr,t',o1,ht,rfl,rfl,rfl⟩ | exact ⟨by omega,vr,t',o1,ht,rfl,rfl,rfl⟩
end
section
attribute [local go_sem] lR Nat.mul_one zA Option.getD_some beq_self_eq_true XJ QAY QAX QAW QAV QAU QAT QAS QAR decide_false decide_true gt_iff_lt Xq
def sh (k:Nat):Int:=IntKind.i64.wrap (2 ^ k)
def tlS (M:List Bool) (x:List Int):Nat→Int
 | 0=>0
 | k+1=>if lv M (gi x k)=true then orI .i64 (tlS M x k) (sh k) else tlS M x k
theorem bit_sh {k j:Nat} (hj:j<64):YA (sh k) j=decide (j=k):=by
 unfold sh
 rw [Qfo (QkM _) hj]
 unfold YA
 rw [show (2:Int) ^ k=1 * 2 ^ k by rw [Int.one_mul],QpB]
 split
 ·rename_i h
  rw [decide_eq_false (by omega),decide_eq_false (by omega)]
 ·rename_i h
  by_cases hjk:j=k
  ·subst hjk; simp
  ·have:(1:Int) / 2 ^ (j - k)=0:=Int.ediv_eq_zero_of_lt (by omega) (by
    rw [show j - k=(j - k - 1)+1 by omega,Int.pow_succ]
    have:=XB (j - k - 1); omega)
   rw [this,decide_eq_false (by omega),decide_eq_false hjk]
theorem QCQ (a b:Int):QiI (orI .i64 a b):=by
 unfold QiI orI
 rw [IntKind.wrap_i64]
 omega
theorem tl_up {M:List Bool} {x:List Int} {a:Int} (t:Tl M x a):∀ k,k≤64→QiI (tlS M x k)∧∀ j,j<64→YA (tlS M x k) j=(decide (j<k)&&YA a j)
 | 0,_=>⟨by unfold tlS QiI; omega,fun j _=>by rw [tlS,QiX]; simp⟩
 | k+1,hk=>by
   obtain ⟨h1,h2⟩:=tl_up t k (by omega)
   rw [tlS]
   split
   ·rename_i hl
    rw [t k (by omega)] at hl
    refine ⟨QCQ _ _,fun j hj=>?_⟩
    rw [QB5 _ _ hj,h2 j hj,bit_sh hj]
    by_cases hjk:j=k
    ·subst hjk; rw [hl]; simp
    ·rw [decide_eq_false hjk,Bool.or_false]
     congr 1
     simp only [decide_eq_decide]; omega
   ·rename_i hl
    rw [t k (by omega),Bool.not_eq_true] at hl
    refine ⟨h1,fun j hj=>?_⟩
    rw [h2 j hj]
    by_cases hjk:j=k
    ·subst hjk; rw [hl]; simp
    ·congr 1
     simp only [decide_eq_decide]; omega
variable {x:List Int} {M:List Bool}
theorem tl_val {a:Int} (t:Tl M x a) (ha:QiI a):tlS M x 64=a:=by
 obtain ⟨h1,h2⟩:=tl_up t 64 (lR _)
 have:cg (tlS M x 64) a:=QpA.1 fun k hk=>by rw [h2 k hk,decide_eq_true hk,Bool.true_and]
 unfold cg at this
 unfold QiI at ha h1
 omega
theorem QDc (hT:Qe P tab) {base:Nat} {g:Gr} {B:Bv} {S:St} {K:List (Int × List Int)} {E:Ev} {t vb vm:Nat} {ex:List (Option Ob)} {T T2:Nat} {id:Int} (hx:kL K id=some x) (nx:Nb M.length x) (hM:M.length≤100000000) :
 C P G base Ql [.int .i64 id,.ptr 12 vb 0,.ptr 13 vm 0] ⟨t,bH g B S K E++some (.arr vb T [.ptr 7 g.b 0])::some (.arr vm T2 [.lst 1 (nbs M) false])::ex⟩ fun v σ=>v=.int .i64 (tlS M x 64)∧σ=⟨t,bH g B S K E++some (.arr vb T [.ptr 7 g.b 0])::some (.arr vm T2 [.lst 1 (nbs M) false])::ex⟩:=by
 refine Qq hT X1 (by simp [XJ]) (Qn 1000 ?_)
 simp -implicitDefEqProofs (disch:=omega) only [go_sem,↓reduceIte,reduceCtorEq,rA,rq,rL,Zh,QV,b_6,b_7,x12,lC,lN,true_implies,and_true,hx]
 refine XK 64 (fun k fr σ=>σ=⟨t,bH g B S K E++some (.arr vb T [.ptr 7 g.b 0])::some (.arr vm T2 [.lst 1 (nbs M) false])::ex⟩∧Qf fr 2=.ptr 13 vm 0∧Qf fr 4=.int .i64 (tlS M x k)∧Qf fr 12=.agg (Qb x)∧Qf fr 13=.int .i64 ((k:Nat):Int))
  (fun e fr σ=>e=.ex 0∧σ=⟨t,bH g B S K E++some (.arr vb T [.ptr 7 g.b 0])::some (.arr vm T2 [.lst 1 (nbs M) false])::ex⟩∧Qf fr 4=.int .i64 (tlS M x 64)) ⟨rfl,by simp -implicitDefEqProofs (disch:=omega) only [go_sem,↓reduceIte,reduceCtorEq,rq],by simp -implicitDefEqProofs (disch:=omega) only [go_sem,↓reduceIte,reduceCtorEq,rq]; rfl,by simp -implicitDefEqProofs (disch:=omega) only [go_sem,↓reduceIte,reduceCtorEq,rq],by simp -implicitDefEqProofs (disch:=omega) only [go_sem,↓reduceIte,reduceCtorEq,rq]; rfl⟩ (fun k hk fr σ hJ=>?_) (fun k hk fr σ hJ=>?_) (fun e fr σ hE=>?_)
 ·obtain ⟨rfl,f2,f4,f12,f13⟩:=hJ
  have hki:(k:Int)<64:=by omega
  have hk0:(0:Int)≤(k:Int):=by omega
  have gx:=nx.lts hk
  have hw:=w_k hk
  obtain ⟨l0,l1,l2⟩:=nx.all k hk
  have hstep:tlS M x (k+1)=if lv M (gi x k)=true then orI .i64 (tlS M x k) (sh k) else tlS M x k:=rfl
  have hsh:IntKind.i64.wrap (1 * 2 ^ min k 64)=sh k:=by rw [Nat.min_eq_left (by omega),Int.one_mul]; rfl
  have hsh2:IntKind.i64.wrap (2 ^ min k 64)=sh k:=by rw [Nat.min_eq_left (by omega)]; rfl
  generalize gi x k=l at *
  have e1:IntKind.i64.wrap (0 - l)=-l:=by rw [wrap_i64 (by omega) (by omega)]; omega
  unfold lv at hstep
  refine Qm [(2,.ptr 13 vm 0),(4,.int .i64 (tlS M x k)),(12,.agg (Qb x)),(13,.int .i64 ((k:Nat):Int))] ⟨f2,f4,f12,f13,trivial⟩  1000 ?_
  by_cases hn:l<0
  ·have e2:(if l < -l then -l else l)=-l:=if_pos (by omega)
   have e3:IntKind.i64.wrap (-l - 1)=-l - 1:=by rw [wrap_i64 (by omega) (by omega)]
   have e4:(0:Int)≤-l - 1:=by omega
   have e5:-l - 1<(M.length:Int):=by omega
   have e6:=Qbo (M:=M) (i:=(-l - 1).toNat) (by omega)
   have e7:(-l - 1).toNat<M.length:=by omega
   have e8:¬ 0<l:=by omega
   have e9:decide (0<l)=false:=decide_eq_false e8
   rw [if_pos hn] at hstep
   cases hb:M.getD (-l - 1).toNat false <;> rw [hb] at hstep e6 <;> simp only [nT,nFq,if_true,Bool.false_eq_true,if_false] at hstep <;>
   ·simp -implicitDefEqProofs (disch:=omega) only [go_sem,↓reduceIte,reduceCtorEq,rq,rL,x13,lC,lN,false_implies,true_implies,true_and,and_true,hki,hk0,Int.toNat_natCast,gx,e1,e2,e3,e4,e6,e7,e8,Ym,hw,hsh,Qx nx.len]
    refine ⟨_,_,Shift.refl _ _ _ _,rfl,?_⟩
    simp -implicitDefEqProofs (disch:=omega) only [go_sem,↓reduceIte,rq,hstep]
  ·have e2:(if l < -l then -l else l)=l:=if_neg (by omega)
   have e3:IntKind.i64.wrap (l - 1)=l - 1:=by rw [wrap_i64 (by omega) (by omega)]
   have e4:(0:Int)≤l - 1:=by omega
   have e5:l - 1<(M.length:Int):=by omega
   have e6:=Qbo (M:=M) (i:=(l - 1).toNat) (by omega)
   have e7:(l - 1).toNat<M.length:=by omega
   have e8:0<l:=by omega
   have e9:decide (0<l)=true:=decide_eq_true e8
   rw [if_neg hn] at hstep
   cases hb:M.getD (l - 1).toNat false <;> rw [hb] at hstep e6 <;> simp only [if_true,Bool.false_eq_true,if_false] at hstep <;>
   ·simp -implicitDefEqProofs (disch:=omega) only [go_sem,↓reduceIte,rq,rL,x13,lC,lN,false_implies,true_implies,true_and,and_true,hki,hk0,Int.toNat_natCast,gx,e1,e2,e3,e4,e6,e7,e8,Ym,hw,hsh,Qx nx.len]
    refine ⟨_,_,Shift.refl _ _ _ _,rfl,?_⟩
    simp -implicitDefEqProofs (disch:=omega) only [go_sem,↓reduceIte,rq,hstep]
 ·obtain ⟨rfl,f2,f4,f12,f13⟩:=hJ
  have hki:¬ (k:Int)<64:=by omega
  rw [hk] at f4
  refine Qm [(2,.ptr 13 vm 0),(4,.int .i64 (tlS M x 64)),(12,.agg (Qb x)),(13,.int .i64 ((k:Nat):Int))] ⟨f2,f4,f12,f13,trivial⟩ 1000 ?_
  simp -implicitDefEqProofs (disch:=omega) only [go_sem,↓reduceIte,rq,hki]
 ·obtain ⟨rfl,rfl,f4⟩:=hE
  refine Qs 1000 ?_
  simp -implicitDefEqProofs (disch:=omega) only [go_sem,↓reduceIte,rq,f4]
end
end Go.Proofs.YtoeicjlflmmmcaaGreatDoor
namespace Go.Proofs.YtoeicjlflmmmcaaGreatDoor
open Go Go.Am Go.Bl
set_option maxRecDepth 100000
variable {P:Program} {G:Nat→Option V}
set_option maxHeartbeats 1000000
section
attribute [local go_sem] lR zA Zz Yh Qzl Qzk zqy_0 zqy_1 Zc QA4 QA3 decide_false decide_true ge_iff_le QO QG Qzj Qzi Qzn Qzm Q7 QN Qxb Qxa Qw9 Qw8 Qw7 Qw6 Qw5 Qw4 Qxj Qxi Qxh Qxg Qxf Qxe Qxd Qxc
def row (c:List Int):V:=.lst 1 (Qb c) false
def fml (v:Int) (F:List (List Int)):V:=.agg [.int .i64 v,.lst 1 (F.map row) false]
variable {c:List Int} {i base t:Nat}
theorem Qr1 {F:List (List Int)} (h:F[i]?=some c):(F.map row).getD i V.any=.lst 1 (Qb c) false:=by simp [List.getD_eq_getElem?_getD,h,row]
theorem Qld {n:Nat} (h:i<n) (hn:n≤9000000):IntKind.i64.wrap ((i:Int)+1)=((i+1:Nat):Int):=by rw [wrap_i64 (by omega) (by omega)]; omega
def QpE (P:Program) (G:Nat→Option V) (base:Nat) (f:V) (o:List (Option Ob)) (p:Int→Bool) (c:List Int):Prop :=
 ∀ t n,n∈c→CV P G base f [.int .i64 n] ⟨t,o⟩ fun v σ=>v=.bool (p n)∧∃ t',t≤t'∧σ=⟨t',o⟩
def QjV (P:Program) (G:Nat→Option V) (base:Nat) (f:V) (o:List (Option Ob)) (p:List Int→Bool) (c:List (List Int)):Prop :=
 ∀ t n,n∈c→CV P G base f [.lst 1 (Qb n) false] ⟨t,o⟩ fun v σ=>v=.bool (p n)∧∃ t',t≤t'∧σ=⟨t',o⟩
def idxQ (b:Bool) (v:V):Prop:=∃ n:Int,v=.int .i64 n∧if b=true then 0≤n else n=-1
theorem QsM {b:Bool} {n:Int} (h:if b=true then 0≤n else n=-1):decide (0≤n)=b:=by
 cases b with
 | true=>exact decide_eq_true h
 | false=>simp at h; rw [h]; rfl
theorem QmN {α:Type} {U:List α} {f:α→Bool} {u:α} (h:U[i]?=some u):(U.take (i+1)).any f=((U.take i).any f || f u):=by
 rw [List.take_add_one,h,List.any_append]; simp
variable {f:V}
theorem c_IdxI (hT:Qe P tab) {o:List (Option Ob)} {p:Int→Bool} (hp:QpE P G base f o p c) (hl:c.length≤1000000) :
 C P G base YI [.lst 1 (Qb c) false,f] ⟨t,o⟩ fun v σ=>idxQ (c.any p) v∧∃ t',t≤t'∧σ=⟨t',o⟩:=by
 refine Qq hT YG (by simp [QN]) (Qn 1000 ?_)
 simp -implicitDefEqProofs (disch:=omega) only [go_sem,↓reduceIte,reduceCtorEq,rq,Qo]
 refine ZF c (fun i fr σ=>∃ t',t≤t'∧σ=⟨t',o⟩∧(c.take i).any p=false∧Qf fr 0=.lst 1 (Qb c) false∧Qf fr 1=f∧Qf fr 7=.int .i64 c.length∧Qf fr 8=.int .i64 ((i:Nat):Int))
  (fun e fr σ=>(∃ t',t≤t'∧σ=⟨t',o⟩)∧((e=.ret∧c.any p=true∧∃ n:Int,0≤n∧Qf fr 4=.int .i64 n)∨(e=.ex 0∧c.any p=false))) ⟨t,lR _,rfl,rfl,by simp -implicitDefEqProofs (disch:=omega) only [go_sem,↓reduceIte],by simp -implicitDefEqProofs (disch:=omega) only [go_sem,↓reduceIte,reduceCtorEq],by simp -implicitDefEqProofs (disch:=omega) only [go_sem,↓reduceIte,reduceCtorEq,rq],by simp -implicitDefEqProofs (disch:=omega) only [go_sem,↓reduceIte,reduceCtorEq,rq]; rfl⟩ (fun i u hu fr σ hJ=>?_) (fun i hi fr σ hJ=>?_) (fun e fr σ hE=>?_)
 ·obtain ⟨t',ht,rfl,hany,f0,f1,f7,f8⟩:=hJ
  have hlt:=(List.getElem?_eq_some_iff.1 hu).1
  have hum:=List.mem_of_getElem? hu
  have hki:(i:Int)<c.length:=by omega
  have hk0:(0:Int)≤(i:Int):=by omega
  have hw:=Qld hlt (by omega)
  have gu:=Qgu hu
  have ha:=QmN (f:=p) hu
  rw [hany,Bool.false_or] at ha
  refine Qm [(0,.lst 1 (Qb c) false),(1,f),(7,.int .i64 c.length),(8,.int .i64 ((i:Nat):Int))] ⟨f0,f1,f7,f8,trivial⟩  1000 ?_
  simp -implicitDefEqProofs (disch:=omega) only [go_sem,↓reduceIte,reduceCtorEq,rq,hki,hk0,hlt,Int.toNat_natCast,gu,Qo]
  refine CV.use 1000 (hp _ u hum) fun v σ hv=>?_
  obtain ⟨rfl,t1,ht1,rfl⟩:=hv
  cases hf:p u with
  | true =>
    simp -implicitDefEqProofs (disch:=omega) only [go_sem,↓reduceIte,reduceCtorEq,rq]
    refine ⟨⟨t1,by omega,rfl⟩,List.any_eq_true.2 ⟨u,hum,hf⟩,(i:Int),hk0,?_⟩
    simp -implicitDefEqProofs (disch:=omega) only [go_sem]
  | false =>
    rw [hf] at ha
    simp -implicitDefEqProofs (disch:=omega) only [go_sem,↓reduceIte,reduceCtorEq,rq,hw]
    refine ⟨_,_,Shift.refl _ _ _ _,t1,by omega,rfl,ha,?_⟩
    simp -implicitDefEqProofs (disch:=omega) only [go_sem,↓reduceIte,reduceCtorEq,rq]
 ·obtain ⟨t',ht,rfl,hany,f0,f1,f7,f8⟩:=hJ
  rw [hi,List.take_length] at hany
  refine Qm [(0,.lst 1 (Qb c) false),(1,f),(7,.int .i64 c.length),(8,.int .i64 ((i:Nat):Int))] ⟨f0,f1,f7,f8,trivial⟩  1000 ?_
  simp -implicitDefEqProofs (disch:=omega) only [go_sem,↓reduceIte,reduceCtorEq,rq,hi,Int.lt_irrefl]
  exact ⟨⟨t',ht,rfl⟩,hany⟩
 ·obtain ⟨⟨t',ht,rfl⟩,⟨rfl,hany,n,hn,f4⟩ | ⟨rfl,hany⟩⟩:=hE
  ·refine Qs 1000 ?_
   simp -implicitDefEqProofs (disch:=omega) only [go_sem,f4]
   exact ⟨⟨n,rfl,by rw [if_pos hany]; exact hn⟩,t',ht,rfl⟩
  ·refine Qs 1000 ?_
   simp -implicitDefEqProofs (disch:=omega) only [go_sem,↓reduceIte]
   exact ⟨⟨-1,rfl,by rw [hany]; rfl⟩,t',ht,rfl⟩
theorem QDY (hT:Qe P tab) {o:List (Option Ob)} {p:Int→Bool} (hp:QpE P G base f o p c) (hl:c.length≤1000000) :
 C P G base Yo [.lst 1 (Qb c) false,f] ⟨t,o⟩ fun v σ=>v=.bool (c.any p)∧∃ t',t≤t'∧σ=⟨t',o⟩:=by
 refine Qq hT Yn (by simp [QG]) (Qn 1000 ?_)
 simp -implicitDefEqProofs (disch:=omega) only [go_sem,↓reduceIte,reduceCtorEq,rq]
 refine call hT YG (c_IdxI hT hp hl) 1000 fun v σ hv=>?_
 obtain ⟨⟨n,rfl,hn⟩,t',ht,rfl⟩:=hv
 have e:=QsM hn
 simp -implicitDefEqProofs (disch:=omega) only [go_sem,↓reduceIte,reduceCtorEq,rq,e]
 exact ⟨t',ht,rfl⟩
theorem c_some (hT:Qe P tab) {o:List (Option Ob)} {p:Int→Bool} (hp:QpE P G base f o p c) (hl:c.length≤1000000) :
 C P G base QbG [.lst 1 (Qb c) false,f] ⟨t,o⟩ fun v σ=>v=.bool (c.any p)∧∃ t',t≤t'∧σ=⟨t',o⟩:=by
 refine Qq hT QbD (by simp [Zc]) (Qn 1000 ?_)
 simp -implicitDefEqProofs (disch:=omega) only [go_sem,↓reduceIte,reduceCtorEq,rq]
 refine call hT Yn (QDY hT hp hl) 1000 fun v σ hv=>?_
 obtain ⟨rfl,t',ht,rfl⟩:=hv
 simp -implicitDefEqProofs (disch:=omega) only [go_sem,↓reduceIte,reduceCtorEq,rq]
 exact ⟨t',ht,rfl⟩
variable {p:List Int→Bool}
theorem c_IdxR (hT:Qe P tab) {o:List (Option Ob)} {c:List (List Int)} (hp:QjV P G base f o p c) (hl:c.length≤2000000) :
 C P G base Zl [.lst 1 (c.map row) false,f] ⟨t,o⟩ fun v σ=>idxQ (c.any p) v∧∃ t',t≤t'∧σ=⟨t',o⟩:=by
 refine Qq hT Zk (by simp [Q7]) (Qn 1000 ?_)
 simp -implicitDefEqProofs (disch:=omega) only [go_sem,↓reduceIte,reduceCtorEq,rq,lM]
 refine ZF c (fun i fr σ=>∃ t',t≤t'∧σ=⟨t',o⟩∧(c.take i).any p=false∧Qf fr 0=.lst 1 (c.map row) false∧Qf fr 1=f∧Qf fr 7=.int .i64 c.length∧Qf fr 8=.int .i64 ((i:Nat):Int))
  (fun e fr σ=>(∃ t',t≤t'∧σ=⟨t',o⟩)∧((e=.ret∧c.any p=true∧∃ n:Int,0≤n∧Qf fr 4=.int .i64 n)∨(e=.ex 0∧c.any p=false))) ⟨t,lR _,rfl,rfl,by simp -implicitDefEqProofs (disch:=omega) only [go_sem,↓reduceIte],by simp -implicitDefEqProofs (disch:=omega) only [go_sem,↓reduceIte,reduceCtorEq],by simp -implicitDefEqProofs (disch:=omega) only [go_sem,↓reduceIte,reduceCtorEq,rq],by simp -implicitDefEqProofs (disch:=omega) only [go_sem,↓reduceIte,reduceCtorEq,rq]; rfl⟩ (fun i u hu fr σ hJ=>?_) (fun i hi fr σ hJ=>?_) (fun e fr σ hE=>?_)
 ·obtain ⟨t',ht,rfl,hany,f0,f1,f7,f8⟩:=hJ
  have hlt:=(List.getElem?_eq_some_iff.1 hu).1
  have hum:=List.mem_of_getElem? hu
  have hki:(i:Int)<c.length:=by omega
  have hk0:(0:Int)≤(i:Int):=by omega
  have hw:=Qld hlt (by omega)
  have gu:=Qr1 hu
  have ha:=QmN (f:=p) hu
  rw [hany,Bool.false_or] at ha
  refine Qm [(0,.lst 1 (c.map row) false),(1,f),(7,.int .i64 c.length),(8,.int .i64 ((i:Nat):Int))] ⟨f0,f1,f7,f8,trivial⟩  1000 ?_
  simp -implicitDefEqProofs (disch:=omega) only [go_sem,↓reduceIte,reduceCtorEq,rq,hki,hk0,hlt,Int.toNat_natCast,gu,lM]
  refine CV.use 1000 (hp _ u hum) fun v σ hv=>?_
  obtain ⟨rfl,t1,ht1,rfl⟩:=hv
  cases hf:p u with
  | true =>
    simp -implicitDefEqProofs (disch:=omega) only [go_sem,↓reduceIte,reduceCtorEq,rq]
    refine ⟨⟨t1,by omega,rfl⟩,List.any_eq_true.2 ⟨u,hum,hf⟩,(i:Int),hk0,?_⟩
    simp -implicitDefEqProofs (disch:=omega) only [go_sem]
  | false =>
    rw [hf] at ha
    simp -implicitDefEqProofs (disch:=omega) only [go_sem,↓reduceIte,reduceCtorEq,rq,hw]
    refine ⟨_,_,Shift.refl _ _ _ _,t1,by omega,rfl,ha,?_⟩
    simp -implicitDefEqProofs (disch:=omega) only [go_sem,↓reduceIte,reduceCtorEq,rq]
 ·obtain ⟨t',ht,rfl,hany,f0,f1,f7,f8⟩:=hJ
  rw [hi,List.take_length] at hany
  refine Qm [(0,.lst 1 (c.map row) false),(1,f),(7,.int .i64 c.length),(8,.int .i64 ((i:Nat):Int))] ⟨f0,f1,f7,f8,trivial⟩  1000 ?_
  simp -implicitDefEqProofs (disch:=omega) only [go_sem,↓reduceIte,reduceCtorEq,rq,hi,Int.lt_irrefl]
  exact ⟨⟨t',ht,rfl⟩,hany⟩
 ·obtain ⟨⟨t',ht,rfl⟩,⟨rfl,hany,n,hn,f4⟩ | ⟨rfl,hany⟩⟩:=hE
  ·refine Qs 1000 ?_
   simp -implicitDefEqProofs (disch:=omega) only [go_sem,f4]
   exact ⟨⟨n,rfl,by rw [if_pos hany]; exact hn⟩,t',ht,rfl⟩
  ·refine Qs 1000 ?_
   simp -implicitDefEqProofs (disch:=omega) only [go_sem,↓reduceIte]
   exact ⟨⟨-1,rfl,by rw [hany]; rfl⟩,t',ht,rfl⟩
theorem QDX (hT:Qe P tab) {o:List (Option Ob)} {c:List (List Int)} (hp:QjV P G base f o p c) (hl:c.length≤2000000) :
 C P G base YJ [.lst 1 (c.map row) false,f] ⟨t,o⟩ fun v σ=>v=.bool (c.any p)∧∃ t',t≤t'∧σ=⟨t',o⟩:=by
 refine Qq hT YH (by simp [QO]) (Qn 1000 ?_)
 simp -implicitDefEqProofs (disch:=omega) only [go_sem,↓reduceIte,reduceCtorEq,rq]
 refine call hT Zk (c_IdxR hT hp hl) 1000 fun v σ hv=>?_
 obtain ⟨⟨n,rfl,hn⟩,t',ht,rfl⟩:=hv
 have e:=QsM hn
 simp -implicitDefEqProofs (disch:=omega) only [go_sem,↓reduceIte,reduceCtorEq,rq,e]
 exact ⟨t',ht,rfl⟩
theorem c_notR (hT:Qe P tab) {tb:Nat} {o:List (Option Ob)} {c:List (List Int)} {k T:Nat} (ho:o[k]?=some (some (.arr tb T [f]))) (hp:QjV P G base f o p c) :
 QjV P G base (.fn (.func QaI) [] [.ptr k tb 0]) o (fun n=>!p n) c:=fun t n hn=>by
 refine CV.of hT QaE (Qq hT QaE (by simp [Yh]) (Qn 1000 ?_))
 simp -implicitDefEqProofs (disch:=omega) only [go_sem,↓reduceIte,reduceCtorEq,rq,ho]
 refine CV.use 1000 (hp t n hn) fun v σ hv=>?_
 obtain ⟨rfl,t',ht,rfl⟩:=hv
 simp -implicitDefEqProofs (disch:=omega) only [go_sem,↓reduceIte,reduceCtorEq,rq]
 exact ⟨t',ht,rfl⟩
theorem c_allR (hT:Qe P tab) {g:Nat} {o:List (Option Ob)} {cap:List V} {c:List (List Int)} (hb:base≤o.length) (hp:∀ ex,QjV P G base (.fn (.func g) [] cap) (o++ex) p c) (hl:c.length≤2000000) :
 C P G base QcB [.lst 1 (c.map row) false,.fn (.func g) [] cap] ⟨t,o⟩ fun v σ=>v=.bool (c.all p)∧∃ t',t≤t'∧σ=⟨t',o⟩:=by
 refine Qh o.length hb (Qq hT Qcw (by simp [Zz]) (Qn 1000 ?_))
 simp -implicitDefEqProofs (disch:=omega) only [go_sem,↓reduceIte,reduceCtorEq,rq]
 have hn:=c_notR (P:=P) (G:=G) (base:=base) (k:=o.length) (tb:=t) (T:=96) hT (by simp) (hp [some (.arr t 96 [.fn (.func g) [] cap])])
 refine call hT YH (QDX hT hn hl) 1000 fun v σ hv=>?_
 obtain ⟨rfl,t',ht,rfl⟩:=hv
 simp -implicitDefEqProofs (disch:=omega) only [go_sem,↓reduceIte,reduceCtorEq,rq]
 exact ⟨by simp,by rw [List.all_eq_not_any_not],t',by omega,rfl,by simp⟩
end
section
attribute [local go_sem] nFq nT aZ lR zA zL beq_self_eq_true bne_self_eq_false Qao Zd Yi QA2 QA1 zqz_0 zqz_1 zqe_0 zqe_1 zqe_2 zqe_3 Qan zqx_0 zqx_1 QvN QvM QvL QvK zqx_2 zqx_3 zqx_4 zqx_5 zqx_6 zqx_7 zqx_8 zqx_9 QbN QA0 QAZ decide_false decide_true gt_iff_lt
def absI (n:Int):Int:=if n<0 then -n else n
theorem c_abs (hT:Qe P tab) (n:Int) (h:-1000000000≤n∧n≤1000000000):Pure P G Qhn [.int .i64 n] fun u=>u=.int .i64 (absI n):=by
 intro t
 have e:IntKind.i64.wrap (0 - n)=-n:=by rw [wrap_i64 (by omega) (by omega)]; omega
 have e3:(if n < -n then -n else n)=absI n:=by unfold absI; split <;> split <;> omega
 refine Qh 0 (zL _) (Qq hT Qc7 (by simp [QbN]) (Qn 1000 ?_))
 simp -implicitDefEqProofs (disch:=omega) only [go_sem,↓reduceIte,reduceCtorEq,rq,e,e3]
variable {m:List Bool} {base kb tb T:Nat}
theorem k_H11 (hT:Qe P tab) {o:List (Option Ob)} {c:List Int} (hc:∀ n∈c,lit m.length n) (hm:m.length≤9000000) (h1:o[kb]?=some (some (.arr tb T [.lst 1 (nbs m) false]))) :
 QpE P G base (.fn (.func QaJ) [] [.ptr kb tb 0]) o (lv m) c:=fun t n hn=>by
 obtain ⟨h0,h2,h3⟩:=hc n hn
 have hA:=c_abs (P:=P) (G:=G) hT n (by omega)
 refine CV.of hT QaF (Qq hT QaF (by simp [Yi]) (Qn 1000 ?_))
 unfold lv
 by_cases hneg:n<0
 ·have ea:absI n=-n:=if_pos hneg
  have e1:IntKind.i64.wrap (-n - 1)=-n - 1:=wrap_i64 (by omega) (by omega)
  have e2:0≤-n - 1:=by omega
  have e3:-n - 1<(m.length:Int):=by omega
  have e4:=Qbo (M:=m) (i:=(-n - 1).toNat) (by omega)
  have e5:(-n - 1).toNat<m.length:=by omega
  have e6:decide (0<n)=false:=decide_eq_false (by omega)
  have e7:¬ 0<n:=by omega
  rw [ea] at hA
  rw [if_pos hneg]
  simp -implicitDefEqProofs (disch:=omega) only [go_sem,↓reduceIte,reduceCtorEq,rq,h1]
  refine QY hT Qc7 hA rfl 1000 ?_
  cases hb:m.getD (-n - 1).toNat false <;> rw [hb] at e4 <;>
  ·simp -implicitDefEqProofs (disch:=omega) only [go_sem,↓reduceIte,reduceCtorEq,rq,e1,e2,e4,e5,e7,Ym]
   first | exact ⟨t,lR _,rfl⟩ | exact ⟨rfl,t,lR _,rfl⟩
 ·have ea:absI n=n:=if_neg hneg
  have e1:IntKind.i64.wrap (n - 1)=n - 1:=wrap_i64 (by omega) (by omega)
  have e2:0≤n - 1:=by omega
  have e3:n - 1<(m.length:Int):=by omega
  have e4:=Qbo (M:=m) (i:=(n - 1).toNat) (by omega)
  have e5:(n - 1).toNat<m.length:=by omega
  have e6:decide (0<n)=true:=decide_eq_true (by omega)
  have e7:0<n:=by omega
  rw [ea] at hA
  rw [if_neg hneg]
  simp -implicitDefEqProofs (disch:=omega) only [go_sem,↓reduceIte,reduceCtorEq,rq,h1]
  refine QY hT Qc7 hA rfl 1000 ?_
  cases hb:m.getD (n - 1).toNat false <;> rw [hb] at e4 <;>
  ·simp -implicitDefEqProofs (disch:=omega) only [go_sem,↓reduceIte,reduceCtorEq,rq,e1,e2,e4,e5,e7,Ym]
   first | exact ⟨t,lR _,rfl⟩ | exact ⟨rfl,t,lR _,rfl⟩
variable {F:List (List Int)}
theorem k_H1 (hT:Qe P tab) {o:List (Option Ob)} (hF:∀ c∈F,∀ n∈c,lit m.length n) (hc:∀ c∈F,c.length≤1000000) (hm:m.length≤9000000) (h1:o[kb]?=some (some (.arr tb T [.lst 1 (nbs m) false]))) :
 QjV P G base (.fn (.func QbH) [] [.ptr kb tb 0]) o (fun c=>c.any (lv m)) F:=fun t c hcF=>by
 refine CV.of hT QbE (Qq hT QbE (by simp [Zd]) (Qn 1000 ?_))
 simp -implicitDefEqProofs (disch:=omega) only [go_sem,↓reduceIte,reduceCtorEq,rq]
 refine call hT QbD (c_some hT (k_H11 hT (hF c hcF) hm h1) (hc c hcF)) 1000 fun v σ hv=>?_
 obtain ⟨rfl,t',ht,rfl⟩:=hv
 simp -implicitDefEqProofs (disch:=omega) only [go_sem,↓reduceIte,reduceCtorEq,rq]
 first | exact ⟨t',ht,rfl⟩ | exact ⟨rfl,t',ht,rfl⟩
theorem Qvt (hT:Qe P tab) {n:Nat} (hF:∀ c∈F,∀ l∈c,lit n l) (hc:∀ c∈F,c.length≤1000000) (hn:n≤9000000) (hl:F.length≤1048576):Pure P G QeL [fml n F] fun v=>v=.bool true:=by
 intro t
 have g1:¬ (n:Int)<0:=by omega
 have g2:¬ (16777216:Int)<(n:Int):=by omega
 have g3:¬ (1048576:Int)<(F.length:Int):=by omega
 have g4:IntKind.i64.wrap (0 - (n:Int))=-(n:Int):=by rw [wrap_i64 (by omega) (by omega)]; omega
 unfold fml
 refine Qh 0 (zL _) (Qq hT QeG (by simp [Qan]) (Qn 1000 ?_))
 simp -implicitDefEqProofs (disch:=omega) only [go_sem,↓reduceIte,reduceCtorEq,rA,rq,rL,g1,g2,g3,lM,lC,lN]
 refine ZF F (fun i fr σ=>∃ vb t',σ=⟨t',[some (.arr vb 53 [.int .i64 n,.lst 1 (F.map row) false])]⟩∧Qf fr 1=.ptr 0 vb 0∧Qf fr 22=.lst 1 (F.map row) false∧Qf fr 23=.int .i64 F.length∧Qf fr 24=.int .i64 ((i:Nat):Int)) (fun e fr σ=>e=.ex 0) ⟨t,t+1,rfl,by simp -implicitDefEqProofs (disch:=omega) only [go_sem,↓reduceIte,reduceCtorEq],by simp -implicitDefEqProofs (disch:=omega) only [go_sem,↓reduceIte,reduceCtorEq,rq],by simp -implicitDefEqProofs (disch:=omega) only [go_sem,↓reduceIte,reduceCtorEq,rq],by simp -implicitDefEqProofs (disch:=omega) only [go_sem,↓reduceIte,reduceCtorEq,rq]; rfl⟩ (fun i c hci fr σ hJ=>?_) (fun i hi fr σ hJ=>?_) (fun e fr σ hE=>?_)
 ·obtain ⟨vb,t',rfl,f1,f22,f23,f24⟩:=hJ
  have hlt:=(List.getElem?_eq_some_iff.1 hci).1
  have hcm:=List.mem_of_getElem? hci
  have hki:(i:Int)<F.length:=by omega
  have hk0:(0:Int)≤(i:Int):=by omega
  have hw:=Qld hlt (by omega)
  have gu:=Qr1 hci
  have hcl:=hc c hcm
  refine Qm [(1,.ptr 0 vb 0),(22,.lst 1 (F.map row) false),(23,.int .i64 F.length),(24,.int .i64 ((i:Nat):Int))] ⟨f1,f22,f23,f24,trivial⟩  1000 ?_
  simp -implicitDefEqProofs (disch:=omega) only [go_sem,↓reduceIte,rq,hki,hk0,hlt,Int.toNat_natCast,gu,lM,Qo]
  refine ZF c (fun k fr σ=>σ=⟨t',[some (.arr vb 53 [.int .i64 n,.lst 1 (F.map row) false])]⟩∧Qf fr 1=.ptr 0 vb 0∧Qf fr 22=.lst 1 (F.map row) false∧Qf fr 23=.int .i64 F.length∧Qf fr 24=.int .i64 ((i:Nat):Int)∧Qf fr 28=.lst 1 (Qb c) false∧Qf fr 29=.int .i64 c.length∧Qf fr 30=.int .i64 ((k:Nat):Int)) (fun e fr σ=>e=.ex 2∧σ=⟨t',[some (.arr vb 53 [.int .i64 n,.lst 1 (F.map row) false])]⟩∧Qf fr 1=.ptr 0 vb 0∧Qf fr 22=.lst 1 (F.map row) false∧Qf fr 23=.int .i64 F.length∧Qf fr 24=.int .i64 ((i:Nat):Int)) ⟨rfl,by simp -implicitDefEqProofs (disch:=omega) only [go_sem,↓reduceIte],by simp -implicitDefEqProofs (disch:=omega) only [go_sem,↓reduceIte,rq],by simp -implicitDefEqProofs (disch:=omega) only [go_sem,↓reduceIte,rq],by simp -implicitDefEqProofs (disch:=omega) only [go_sem,↓reduceIte,rq],by simp -implicitDefEqProofs (disch:=omega) only [go_sem,↓reduceIte,rq],by simp -implicitDefEqProofs (disch:=omega) only [go_sem,↓reduceIte,rq],by simp -implicitDefEqProofs (disch:=omega) only [go_sem,↓reduceIte,rq]; rfl⟩ (fun k l hkl fr σ hJ=>?_) (fun k hk fr σ hJ=>?_) (fun e fr σ hE=>?_)
  ·obtain ⟨rfl,f1,f22,f23,f24,f28,f29,f30⟩:=hJ
   have hlk:=(List.getElem?_eq_some_iff.1 hkl).1
   have hkk:(k:Int)<c.length:=by omega
   have hkk0:(0:Int)≤(k:Int):=by omega
   have hwk:=Qld hlk (by omega)
   have gl:=Qgu hkl
   obtain ⟨l0,l1,l2⟩:=hF c hcm l (List.mem_of_getElem? hkl)
   have d0:(l==0)=false:=beq_eq_false_iff_ne.2 l0
   have d0':decide (l=0)=false:=decide_eq_false l0
   have d1:¬ (n:Int)<l:=by omega
   have d2:¬ l < -(n:Int):=by omega
   refine Qm [(1,.ptr 0 vb 0),(22,.lst 1 (F.map row) false),(23,.int .i64 F.length),(24,.int .i64 ((i:Nat):Int)),(28,.lst 1 (Qb c) false),(29,.int .i64 c.length),(30,.int .i64 ((k:Nat):Int))] ⟨f1,f22,f23,f24,f28,f29,f30,trivial⟩  1000 ?_
   simp -implicitDefEqProofs (disch:=omega) only [go_sem,↓reduceIte,rA,rq,rL,hkk,hkk0,hlk,Int.toNat_natCast,gl,Qo,g4,d0,d1,d2,hwk,lC,lN]
   refine ⟨_,_,Shift.refl _ _ _ _,rfl,?_⟩
   simp -implicitDefEqProofs (disch:=omega) only [go_sem,↓reduceIte,rq]
  ·obtain ⟨rfl,f1,f22,f23,f24,f28,f29,f30⟩:=hJ
   refine Qm [(1,.ptr 0 vb 0),(22,.lst 1 (F.map row) false),(23,.int .i64 F.length),(24,.int .i64 ((i:Nat):Int)),(28,.lst 1 (Qb c) false),(29,.int .i64 c.length),(30,.int .i64 ((k:Nat):Int))] ⟨f1,f22,f23,f24,f28,f29,f30,trivial⟩  1000 ?_
   simp -implicitDefEqProofs (disch:=omega) only [go_sem,↓reduceIte,rq,hk,Int.lt_irrefl]
   try exact ⟨rfl,rfl,rfl,rfl,rfl⟩
  ·obtain ⟨rfl,rfl,f1,f22,f23,f24⟩:=hE
   refine Qll [(1,.ptr 0 vb 0),(22,.lst 1 (F.map row) false),(23,.int .i64 F.length),(24,.int .i64 ((i:Nat):Int))] ⟨f1,f22,f23,f24,trivial⟩ 1000 ?_
   simp -implicitDefEqProofs (disch:=omega) only [go_sem,↓reduceIte,rq,hw]
   refine ⟨_,_,Shift.refl _ _ _ _,vb,t',rfl,?_⟩
   simp -implicitDefEqProofs (disch:=omega) only [go_sem,↓reduceIte,rq]
 ·obtain ⟨vb,t',rfl,f1,f22,f23,f24⟩:=hJ
  refine Qm [(1,.ptr 0 vb 0),(22,.lst 1 (F.map row) false),(23,.int .i64 F.length),(24,.int .i64 ((i:Nat):Int))] ⟨f1,f22,f23,f24,trivial⟩  1000 ?_
  simp -implicitDefEqProofs (disch:=omega) only [go_sem,↓reduceIte,rq,hi,Int.lt_irrefl]
 ·subst hE
  refine Qs 1000 ?_
  simp -implicitDefEqProofs (disch:=omega) only [go_sem,↓reduceIte]
theorem Qr0:∀ F:List (List Int),Qc (F.map row)=true
 | []=>rfl
 | c::F=>by have:=Qr0 F; simpa [Qc,Qd,row] using this
theorem Qvv (hT:Qe P tab) (hF:∀ c∈F,∀ l∈c,lit m.length l) (hh:∀ c∈F,c.any (lv m)=true) (hc:∀ c∈F,c.length≤1000000) (hm:m.length≤9000000) (hl:F.length≤1048576) :
 Pure P G Qbp [fml m.length F,.lst 1 (nbs m) false] fun u=>u=.bool true:=by
 intro t
 have hR:=Qvt (P:=P) (G:=G) hT hF hc hm hl
 have nF:Qc [fml m.length F]=true:=by simp [fml,Qc,Qd]
 have hall:F.all (fun c=>c.any (lv m))=true:=List.all_eq_true.2 fun c hcm=>hh c hcm
 unfold fml at hR nF ⊢
 refine Qh 0 (zL _) (Qq hT Qbm (by simp [Qao]) (Qn 1000 ?_))
 simp -implicitDefEqProofs (disch:=omega) only [go_sem,↓reduceIte,reduceCtorEq,rA,rq,lC,lN]
 refine QY hT QeG hR nF 1000 ?_
 simp -implicitDefEqProofs (disch:=omega) only [go_sem,↓reduceIte,reduceCtorEq,rA,rq,rL,Ym,lC,lN]
 have hK:=fun ex=>k_H1 (P:=P) (G:=G) (base:=0) (kb:=1) (tb:=t+1) (T:=49) (o:=[some (.arr t 53 [.int .i64 m.length,.lst 1 (F.map row) false]),some (.arr (t+1) 49 [.lst 1 (nbs m) false])]++ex) (m:=m) hT (F:=F) hF hc hm (by simp)
 refine call hT Qcw (c_allR hT (o:=[some (.arr t 53 [.int .i64 m.length,.lst 1 (F.map row) false]),some (.arr (t+1) 49 [.lst 1 (nbs m) false])]) (zL _) hK (by omega)) 1000 fun u σ hu=>?_
 obtain ⟨rfl,t',ht,rfl⟩:=hu
 simp -implicitDefEqProofs (disch:=omega) only [go_sem,↓reduceIte,reduceCtorEq,rA,rq,hall]
end
end Go.Proofs.YtoeicjlflmmmcaaGreatDoor
