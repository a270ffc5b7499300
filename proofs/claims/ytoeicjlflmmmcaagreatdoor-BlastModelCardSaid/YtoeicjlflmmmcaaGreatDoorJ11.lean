/- Contracts: the document's answers: a literal, a number; few. -/
import Derived.Test.YtoeicjlflmmmcaaGreatDoorJ10
open Nat renaming reduceEqDiff → rq, reduceAdd → rA, reduceLeDiff → rL, reduceLT → rT, zero_add → zA, le_refl → lR, zero_le → zL, add_zero → aZ
open List renaming length_cons → lC, length_nil → lN, take_succ_cons → tSq, length_append → lA, nil_append → nA, cons_append → cA, append_assoc → aA, take_nil → tN, take_zero → tZ, length_map → lM
open Bool renaming not_false → nFq, not_true → nT
namespace Go.Proofs.YtoeicjlflmmmcaaGreatDoor
open Go Go.Am Go.Bl
set_option maxRecDepth 100000
variable {P:Program} {G:Nat→Option V}
set_option maxHeartbeats 1000000
section
attribute [local go_sem] nFq nT aZ lR Nat.succ_ne_zero zA zL beq_self_eq_true decide_false decide_true gt_iff_lt Yf zq2_0 zq2_1 zq2_2 zq2_3 zq2_4 zq2_5 zq2_6 zq2_7 Xx QAL QAK QAJ QAI QAH QAG QAF XF zqi_0 zqi_1 Xw zqh_0 zqh_1 zqh_2 zqh_3 zqh_4 zqh_5 zqh_6 zqh_7
variable {M:List Bool} {l:Int}
theorem Qqt (hT:Qe P tab) (hl:lit M.length l) (hM:M.length≤9000000):Pure P G ZX [.lst 1 [.int .i64 l] true,.lst 1 (nbs M) false] fun v=>v=.bool (lv M l):=by
 intro t
 obtain ⟨h0,h1,h2⟩:=hl
 refine Qh 0 (zL _) (Qq hT ZT (by simp [Xx]) (Qn 1000 ?_))
 simp -implicitDefEqProofs (disch:=omega) only [go_sem,↓reduceIte,reduceCtorEq,rq]
 refine ZF [l] (fun i fr σ=>∃ t',σ=⟨t',[]⟩∧((i=0)∨lv M l=false)∧Qf fr 0=.lst 1 [.int .i64 l] true∧Qf fr 1=.lst 1 (nbs M) false∧Qf fr 5=.int .i64 ((i:Nat):Int)) (fun e fr σ=>(e=.ret∧lv M l=true∧Qf fr 4=.bool true)∨(e=.ex 0∧lv M l=false)) ⟨t,rfl,.inl rfl,by simp -implicitDefEqProofs (disch:=omega) only [go_sem,↓reduceIte],by simp -implicitDefEqProofs (disch:=omega) only [go_sem,↓reduceIte,reduceCtorEq],by simp -implicitDefEqProofs (disch:=omega) only [go_sem,↓reduceIte,reduceCtorEq,rq]; rfl⟩ (fun i c hci fr σ hJ=>?_) (fun i hi fr σ hJ=>?_) (fun e fr σ hE=>?_)
 ·obtain ⟨t',rfl,-,f0,f1,f5⟩:=hJ
  have hi0:i=0:=by
   have:=(List.getElem?_eq_some_iff.1 hci).1
   simp at this; exact this
  have hki:(i:Int)<1:=by omega
  have hk0:(0:Int)≤(i:Int):=by omega
  have hwi:IntKind.i64.wrap ((i:Int)+1)=((i+1:Nat):Int):=by rw [wrap_i64 (by omega) (by omega)]; omega
  have gl:[V.int .i64 l].getD i V.any=.int .i64 l:=by rw [hi0]; rfl
  have hlt:i<1:=by omega
  cases hv:lv M l with
  | true =>
    unfold lv at hv
    refine Qm [(0,.lst 1 [.int .i64 l] true),(1,.lst 1 (nbs M) false),(5,.int .i64 ((i:Nat):Int))] ⟨f0,f1,f5,trivial⟩  1000 ?_
    by_cases hn:l<0
    ·rw [if_pos hn] at hv
     have e0:IntKind.i64.wrap (0 - l)=-l:=by rw [wrap_i64 (by omega) (by omega)]; omega
     have e1:IntKind.i64.wrap (-l - 1)=-l - 1:=wrap_i64 (by omega) (by omega)
     have e2:0≤-l - 1:=by omega
     have e3:-l - 1<(M.length:Int):=by omega
     have e4:=Qbo (M:=M) (i:=(-l - 1).toNat) (by omega)
     have e5:(-l - 1).toNat<M.length:=by omega
     have e7:¬ 0<l:=by omega
     have e6:decide (0<l)=false:=decide_eq_false e7
     have hb:M.getD (-l - 1).toNat false=false:=by revert hv; cases M.getD (-l - 1).toNat false <;> simp
     rw [hb] at e4
     simp -implicitDefEqProofs (disch:=omega) only [go_sem,↓reduceIte,reduceCtorEq,rA,rq,hk0,gl,hlt,Int.toNat_natCast,e0,e1,e2,e4,e5,e7,hn,Ym,lC,lN]
     try exact .inl ⟨rfl,rfl⟩
    ·rw [if_neg hn] at hv
     have e1:IntKind.i64.wrap (l - 1)=l - 1:=wrap_i64 (by omega) (by omega)
     have e2:0≤l - 1:=by omega
     have e3:l - 1<(M.length:Int):=by omega
     have e4:=Qbo (M:=M) (i:=(l - 1).toNat) (by omega)
     have e5:(l - 1).toNat<M.length:=by omega
     have e7:0<l:=by omega
     have e6:decide (0<l)=true:=decide_eq_true e7
     rw [hv] at e4
     simp -implicitDefEqProofs (disch:=omega) only [go_sem,↓reduceIte,reduceCtorEq,rA,rq,hk0,gl,hlt,Int.toNat_natCast,e1,e2,e4,e5,e7,Ym,lC,lN]
     try exact .inl ⟨rfl,rfl⟩
  | false =>
    have hv0:=hv
    unfold lv at hv
    refine Qm [(0,.lst 1 [.int .i64 l] true),(1,.lst 1 (nbs M) false),(5,.int .i64 ((i:Nat):Int))] ⟨f0,f1,f5,trivial⟩  1000 ?_
    by_cases hn:l<0
    ·rw [if_pos hn] at hv
     have e0:IntKind.i64.wrap (0 - l)=-l:=by rw [wrap_i64 (by omega) (by omega)]; omega
     have e1:IntKind.i64.wrap (-l - 1)=-l - 1:=wrap_i64 (by omega) (by omega)
     have e2:0≤-l - 1:=by omega
     have e3:-l - 1<(M.length:Int):=by omega
     have e4:=Qbo (M:=M) (i:=(-l - 1).toNat) (by omega)
     have e5:(-l - 1).toNat<M.length:=by omega
     have e7:¬ 0<l:=by omega
     have e6:decide (0<l)=false:=decide_eq_false e7
     have hb:M.getD (-l - 1).toNat false=true:=by revert hv; cases M.getD (-l - 1).toNat false <;> simp
     rw [hb] at e4
     simp -implicitDefEqProofs (disch:=omega) only [go_sem,↓reduceIte,reduceCtorEq,rA,rq,hk0,hwi,gl,hlt,Int.toNat_natCast,e0,e1,e2,e4,e5,e7,hn,Ym,lC,lN]
     refine ⟨_,_,Shift.refl _ _ _ _,t',rfl,?_⟩
     simp -implicitDefEqProofs (disch:=omega) only [go_sem,↓reduceIte,reduceCtorEq,rq]
    ·rw [if_neg hn] at hv
     have e1:IntKind.i64.wrap (l - 1)=l - 1:=wrap_i64 (by omega) (by omega)
     have e2:0≤l - 1:=by omega
     have e3:l - 1<(M.length:Int):=by omega
     have e4:=Qbo (M:=M) (i:=(l - 1).toNat) (by omega)
     have e5:(l - 1).toNat<M.length:=by omega
     have e7:0<l:=by omega
     have e6:decide (0<l)=true:=decide_eq_true e7
     rw [hv] at e4
     simp -implicitDefEqProofs (disch:=omega) only [go_sem,↓reduceIte,reduceCtorEq,rA,rq,hk0,hwi,gl,hlt,Int.toNat_natCast,e1,e2,e4,e5,e7,hn,Ym,lC,lN]
     refine ⟨_,_,Shift.refl _ _ _ _,t',rfl,?_⟩
     simp -implicitDefEqProofs (disch:=omega) only [go_sem,↓reduceIte,reduceCtorEq,rq]
 ·obtain ⟨t',rfl,hv,f0,f1,f5⟩:=hJ
  have hi1:i=1:=hi
  have hki:¬ (i:Int)<1:=by omega
  have hv:lv M l=false:=by rcases hv with h | h; omega; exact h
  rw [hi1] at f5
  refine Qm [(0,.lst 1 [.int .i64 l] true),(1,.lst 1 (nbs M) false),(5,.int .i64 1)] ⟨f0,f1,f5,trivial⟩ 1000 ?_
  have h11:¬ (1:Int)<((1:Nat):Int):=by omega
  simp -implicitDefEqProofs (disch:=omega) only [go_sem,↓reduceIte,reduceCtorEq,rq,h11,lC,lN]
  first | exact hv | exact ⟨rfl,hv⟩ | exact .inr hv
 ·rcases hE with ⟨rfl,hv,f4⟩ | ⟨rfl,hv⟩
  ·refine Qs 1000 ?_
   simp -implicitDefEqProofs (disch:=omega) only [go_sem,f4,hv]
  ·refine Qs 1000 ?_
   simp -implicitDefEqProofs (disch:=omega) only [go_sem,↓reduceIte,hv]
theorem QdE (hT:Qe P tab) (hl:lit M.length l) (hM:M.length≤9000000):Pure P G Z7 [.int .i64 l,.lst 1 (nbs M) false] fun v=>v=.bool (lv M l):=by
 intro t
 have hC:=Qqt (P:=P) (G:=G) hT hl hM
 have hnl:Qc [V.lst 1 [V.int .i64 l] true,V.lst 1 (nbs M) false]=true:=by simp [Qc,Qd]
 obtain ⟨h0,h1,h2⟩:=hl
 have e0:IntKind.i64.wrap (0 - l)=-l:=by rw [wrap_i64 (by omega) (by omega)]; omega
 have e1:(if l < -l then -l else l)≤(M.length:Int):=by split <;> omega
 have e2:(l==0)=false:=beq_eq_false_iff_ne.2 h0
 refine Qh 0 (zL _) (Qq hT QU (by simp [XF]) (Qn 1000 ?_))
 simp -implicitDefEqProofs (disch:=omega) only [go_sem,↓reduceIte,reduceCtorEq,rA,rq,e0,e1,h0,Ym,false_implies,true_implies,true_and,and_true]
 refine QY hT ZT hC hnl 1000 ?_
 simp -implicitDefEqProofs (disch:=omega) only [go_sem,↓reduceIte,reduceCtorEq,rq]
theorem Qpz (hT:Qe P tab) {x:List Int} {a:Int} (hx:Nb M.length x) (hM:M.length≤9000000) (ta:Tl M x a) (ha:QiI a):Pure P G ZW [.lst 1 (Qb x) false,.lst 1 (nbs M) false] fun v=>v=.int .i64 a:=by
 intro t
 refine Qh 0 (zL _) (Qq hT YB (by simp [Xw]) (Qn 1000 ?_))
 simp -implicitDefEqProofs (disch:=omega) only [go_sem,↓reduceIte,reduceCtorEq,rq]
 refine XK 64 (fun k fr σ=>∃ t',σ=⟨t',[]⟩∧Qf fr 0=.lst 1 (Qb x) false∧Qf fr 1=.lst 1 (nbs M) false∧Qf fr 5=.int .u64 (a % 2 ^ k)∧Qf fr 6=.int .i64 ((k:Nat):Int)) (fun e fr σ=>e=.ex 0∧∃ t',σ=⟨t',[]⟩∧Qf fr 5=.int .u64 (a % 2 ^ 64)) ⟨t,rfl,by simp -implicitDefEqProofs (disch:=omega) only [go_sem,↓reduceIte],by simp -implicitDefEqProofs (disch:=omega) only [go_sem,↓reduceIte,reduceCtorEq],by simp -implicitDefEqProofs (disch:=omega) only [go_sem,↓reduceIte,reduceCtorEq,rq]; simp [Int.emod_one],by simp -implicitDefEqProofs (disch:=omega) only [go_sem,↓reduceIte,reduceCtorEq,rq]; rfl⟩ (fun k hk fr σ hJ=>?_) (fun k hk fr σ hJ=>?_) (fun e fr σ hE=>?_)
 ·obtain ⟨t',rfl,f0,f1,f5,f6⟩:=hJ
  have hki:(k:Int)<64:=by omega
  have hk0:(0:Int)≤(k:Int):=by omega
  have hw:=w_k hk
  have gx:=hx.lts hk
  have hH:=QdE (P:=P) (G:=G) hT (hx.all k hk) hM
  rw [ta k hk] at hH
  have hnl:Qc [V.int .i64 (gi x k),V.lst 1 (nbs M) false]=true:=by simp [Qc,Qd]
  have hsh:IntKind.u64.wrap (1 * 2 ^ min k 64)=2 ^ k:=by
   rw [Nat.min_eq_left (by omega)]
   rw [QrN hk ⟨by omega,by omega⟩,Int.one_mul]
  have hsh2:IntKind.u64.wrap (2 ^ min k 64)=2 ^ k:=by rw [← hsh,Int.one_mul]
  refine Qm [(0,.lst 1 (Qb x) false),(1,.lst 1 (nbs M) false),(5,.int .u64 (a % 2 ^ k)),(6,.int .i64 ((k:Nat):Int))] ⟨f0,f1,f5,f6,trivial⟩  1000 ?_
  simp -implicitDefEqProofs (disch:=omega) only [go_sem,↓reduceIte,reduceCtorEq,rA,rq,hki,hk0,hk,true_implies,Int.toNat_natCast,gx,Qx hx.len]
  refine QY hT QU hH hnl 1000 ?_
  cases hb:YA a k with
  | true =>
    have hb1:a / 2 ^ k % 2=1:=of_decide_eq_true hb
    have ho:orI .u64 (a % 2 ^ k) (2 ^ k)=a % 2 ^ (k+1):=by
     have:=Qt8 (T:=a) (x:=1) hk hb1
     rwa [Int.one_mul] at this
    simp -implicitDefEqProofs (disch:=omega) only [go_sem,↓reduceIte,reduceCtorEq,rq,hsh,ho,hw,hk0,Int.toNat_natCast]
    refine ⟨_,_,Shift.refl _ _ _ _,t',rfl,?_⟩
    simp -implicitDefEqProofs (disch:=omega) only [go_sem,↓reduceIte,reduceCtorEq,rq]
  | false =>
    have hb1:¬ a / 2 ^ k % 2=1:=of_decide_eq_false hb
    have ho:a % 2 ^ k=a % 2 ^ (k+1):=by
     have:=Qgc a k
     rw [Zj,show a / 2 ^ k % 2=0 by omega,Int.mul_zero,Int.add_zero]
    simp -implicitDefEqProofs (disch:=omega) only [go_sem,↓reduceIte,reduceCtorEq,rq,hw]
    refine ⟨_,_,Shift.refl _ _ _ _,t',rfl,?_⟩
    simp -implicitDefEqProofs (disch:=omega) only [go_sem,↓reduceIte,reduceCtorEq,rq,ho]
 ·obtain ⟨t',rfl,f0,f1,f5,f6⟩:=hJ
  have hki:¬ (k:Int)<64:=by omega
  rw [hk] at f5
  refine Qm [(0,.lst 1 (Qb x) false),(1,.lst 1 (nbs M) false),(5,.int .u64 (a % 2 ^ 64)),(6,.int .i64 ((k:Nat):Int))] ⟨f0,f1,f5,f6,trivial⟩ 1000 ?_
  simp -implicitDefEqProofs (disch:=omega) only [go_sem,↓reduceIte,reduceCtorEq,rA,rq,hki,hx.len,Qo]
  first | exact ⟨fun _=>⟨t',rfl⟩,fun _=>⟨t',rfl⟩⟩ | exact ⟨t',rfl⟩ | exact ⟨t',rfl,rfl⟩
 ·obtain ⟨rfl,t',rfl,f5⟩:=hE
  have e:IntKind.i64.wrap (a % 2 ^ 64)=a:=by
   rw [show (2:Int) ^ 64=18446744073709551616 from rfl,IntKind.wrap_i64]
   unfold QiI at ha; omega
  refine Qs 1000 ?_
  simp -implicitDefEqProofs (disch:=omega) only [go_sem,↓reduceIte,rq,f5,e]
def mulN (l:List Nd):Nat:=l.countP fun d=>decide (d.op=3)
def fewB (l:List Nd) (S:List Int) (C:List Cl) (top:Int):Bool:=decide ((l.length:Int)≤top)&&(decide (mulN l≤2)&&(decide (S.length≤60)&&decide (C.length≤60)))
theorem c_few (hT:Qe P tab) {l:List Nd} {tl:Bool} {S:List Int} {tS:Bool} {C':List Cl} {tC:Bool} {top:Int} (hl:l.length≤9223372036854775807):Pure P G QaH [.lst 6 (l.map fun d=>.agg d.cells) tl,QhC S tS 4 C' tC,.int .i64 top] fun v=>v=.bool (fewB l S C' top):=by
 intro t
 refine Qh 0 (zL _) (Qq hT Zo (by simp [Yf]) (Qn 1000 ?_))
 unfold QhC
 simp -implicitDefEqProofs (disch:=omega) only [go_sem,↓reduceIte,reduceCtorEq,rA,rq,lN]
 refine ZF l (fun i fr σ=>∃ vb t',σ=⟨t',[some (.arr vb 26 [.lst 1 (Qb S) tS,.lst 4 (C'.map Cl.v) tC])]⟩∧Qf fr 0=.lst 6 (l.map fun d=>.agg d.cells) tl∧Qf fr 2=.int .i64 top∧Qf fr 4=.ptr 0 vb 0∧Qf fr 7=.int .i64 (mulN (l.take i):Nat)∧Qf fr 8=.int .i64 ((i:Nat):Int)) (fun e fr σ=>e=.ex 0∧∃ vb t',σ=⟨t',[some (.arr vb 26 [.lst 1 (Qb S) tS,.lst 4 (C'.map Cl.v) tC])]⟩∧Qf fr 0=.lst 6 (l.map fun d=>.agg d.cells) tl∧Qf fr 2=.int .i64 top∧Qf fr 4=.ptr 0 vb 0∧Qf fr 7=.int .i64 (mulN l:Nat)) ⟨t,t+1,rfl,by simp -implicitDefEqProofs (disch:=omega) only [go_sem,↓reduceIte],by simp -implicitDefEqProofs (disch:=omega) only [go_sem,↓reduceIte,reduceCtorEq,rq],by simp -implicitDefEqProofs (disch:=omega) only [go_sem,↓reduceIte,reduceCtorEq,rq],by simp -implicitDefEqProofs (disch:=omega) only [go_sem,↓reduceIte,reduceCtorEq,rq]; rfl,by simp -implicitDefEqProofs (disch:=omega) only [go_sem,↓reduceIte,reduceCtorEq,rq]; rfl⟩ (fun i d hd fr σ hJ=>?_) (fun i hi fr σ hJ=>?_) (fun e fr σ hE=>?_)
 ·obtain ⟨vb,t',rfl,f0,f2,f4,f7,f8⟩:=hJ
  have hlt:=(List.getElem?_eq_some_iff.1 hd).1
  have hki:(i:Int)<l.length:=by omega
  have hk0:(0:Int)≤(i:Int):=by omega
  have hw:IntKind.i64.wrap ((i:Int)+1)=((i+1:Nat):Int):=by rw [wrap_i64 (by omega) (by omega)]; omega
  have gd:(l.map fun d=>V.agg d.cells).getD i V.any=.agg d.cells:=by simp [List.getD_eq_getElem?_getD,hd]
  have gd6:4≤d.cells.length:=show 4≤6 by decide
  have gd3:d.cells.getD 3 V.any=.int .u8 d.op:=rfl
  have hm:mulN (l.take (i+1))=mulN (l.take i)+if d.op=3 then 1 else 0:=by
   unfold mulN
   rw [List.take_add_one,hd,List.countP_append]
   simp [List.countP_cons]
  have hml:mulN (l.take i)≤i:=by
   have h1:mulN (l.take i)≤(l.take i).length:=List.countP_le_length
   rw [List.length_take] at h1; omega
  have hwm:IntKind.i64.wrap ((mulN (l.take i):Int)+1)=((mulN (l.take i)+1:Nat):Int):=by rw [wrap_i64 (by omega) (by omega)]; omega
  refine Qm [(0,.lst 6 (l.map fun d=>.agg d.cells) tl),(2,.int .i64 top),(4,.ptr 0 vb 0),(7,.int .i64 (mulN (l.take i):Nat)),(8,.int .i64 ((i:Nat):Int))] ⟨f0,f2,f4,f7,f8,trivial⟩  1000 ?_
  by_cases ho:d.op=3
  ·rw [if_pos ho] at hm
   simp -implicitDefEqProofs (disch:=omega) only [go_sem,↓reduceIte,reduceCtorEq,rA,rq,hki,hk0,hlt,Int.toNat_natCast,gd,gd3,gd6,lM,ho,hw,hwm,true_implies,and_true]
   refine ⟨_,_,Shift.refl _ _ _ _,vb,t',rfl,?_⟩
   simp -implicitDefEqProofs (disch:=omega) only [go_sem,↓reduceIte,reduceCtorEq,rq,hm]
  ·rw [if_neg ho] at hm
   simp -implicitDefEqProofs (disch:=omega) only [go_sem,↓reduceIte,reduceCtorEq,rA,rq,hki,hk0,hlt,Int.toNat_natCast,gd,gd3,gd6,lM,ho,hw,hwm,false_implies,true_implies,true_and,and_true]
   refine ⟨_,_,Shift.refl _ _ _ _,vb,t',rfl,?_⟩
   simp -implicitDefEqProofs (disch:=omega) only [go_sem,↓reduceIte,reduceCtorEq,rq,hm]
 ·obtain ⟨vb,t',rfl,f0,f2,f4,f7,f8⟩:=hJ
  rw [hi,List.take_length] at f7
  refine Qm [(0,.lst 6 (l.map fun d=>.agg d.cells) tl),(2,.int .i64 top),(4,.ptr 0 vb 0),(7,.int .i64 (mulN l:Nat)),(8,.int .i64 ((i:Nat):Int))] ⟨f0,f2,f4,f7,f8,trivial⟩ 1000 ?_
  simp -implicitDefEqProofs (disch:=omega) only [go_sem,↓reduceIte,reduceCtorEq,rq,hi,Int.lt_irrefl,lM]
  first | exact ⟨vb,t',rfl,rfl⟩ | exact ⟨vb,t',⟨rfl,rfl⟩,rfl⟩
 ·obtain ⟨rfl,vb,t',rfl,f0,f2,f4,f7⟩:=hE
  have e1:decide (((mulN l:Nat):Int)≤2)=decide (mulN l≤2):=by simp only [decide_eq_decide]; omega
  have e2:decide (((S.length:Nat):Int)≤60)=decide (S.length≤60):=by simp only [decide_eq_decide]; omega
  have e3:decide (((C'.length:Nat):Int)≤60)=decide (C'.length≤60):=by simp only [decide_eq_decide]; omega
  refine YT [(0,.lst 6 (l.map fun d=>.agg d.cells) tl),(2,.int .i64 top),(4,.ptr 0 vb 0),(7,.int .i64 (mulN l:Nat))] ⟨f0,f2,f4,f7,trivial⟩ 1000 ?_
  unfold fewB
  by_cases g1:(l.length:Int)≤top
  ·by_cases g2:mulN l≤2
   ·have g2':((mulN l:Nat):Int)≤2:=by omega
    by_cases g3:S.length≤60
    ·have g3':((S.length:Nat):Int)≤60:=by omega
     simp -implicitDefEqProofs (disch:=omega) only [go_sem,↓reduceIte,reduceCtorEq,rA,rq,rL,g1,g2,g2',g3,g3',e3,lM,Qo,lC,lN]
     try simp [g1,g2,g3]
    ·have g3':¬ ((S.length:Nat):Int)≤60:=by omega
     simp -implicitDefEqProofs (disch:=omega) only [go_sem,↓reduceIte,reduceCtorEq,rA,rq,rL,g1,g2,g2',g3,g3',lM,Qo,lC,lN]
     try simp [g1,g2,g3]
   ·have g2':¬ ((mulN l:Nat):Int)≤2:=by omega
    simp -implicitDefEqProofs (disch:=omega) only [go_sem,↓reduceIte,reduceCtorEq,rA,rq,g1,g2,g2',lM,lC,lN]
    try simp [g1,g2]
  ·simp -implicitDefEqProofs (disch:=omega) only [go_sem,↓reduceIte,reduceCtorEq,rq,g1,lM,lC,lN]
   try simp [g1]
end
end Go.Proofs.YtoeicjlflmmmcaaGreatDoor
namespace Go.Proofs.YtoeicjlflmmmcaaGreatDoor
open Go Go.Am Go.Bl
set_option maxRecDepth 100000
variable {P:Program} {G:Nat→Option V} {cap:Nat}
set_option maxHeartbeats 1000000
section
variable {g:Gr} {B:Bv} {S:St} {K:List (Int × List Int)} {E:Ev} {x0 x1 x2 x3 x4 x5 x6 x7 y:Option Ob} {ex:List (Option Ob)}
theorem x17:(bH g B S K E++x0::x1::x2::x3::x4::x5::ex)[17]?=some x5:=rfl
theorem x18:(bH g B S K E++x0::x1::x2::x3::x4::x5::x6::ex)[18]?=some x6:=rfl
theorem x19:(bH g B S K E++x0::x1::x2::x3::x4::x5::x6::x7::ex)[19]?=some x7:=rfl
theorem y17:(bH g B S K E++x0::x1::x2::x3::x4::x5::ex).set 17 y=bH g B S K E++x0::x1::x2::x3::x4::y::ex:=rfl
theorem y18:(bH g B S K E++x0::x1::x2::x3::x4::x5::x6::ex).set 18 y=bH g B S K E++x0::x1::x2::x3::x4::x5::y::ex:=rfl
theorem y19:(bH g B S K E++x0::x1::x2::x3::x4::x5::x6::x7::ex).set 19 y=bH g B S K E++x0::x1::x2::x3::x4::x5::x6::y::ex:=rfl
end
section
attribute [local go_sem] nFq nT aZ lR Nat.mul_one zA beq_self_eq_true Yz zqf_0 zqf_1 QvX Qop Qoo Qon Qom Qol Qok Qoj Qoi Qoh zqf_2 Qog Qof QvW zqf_3 zqf_4 zqf_5 QCp QCo QCn zqf_9 bne_self_eq_false decide_false decide_true Xq
theorem Qks (K:List (Int × List Int)):(kEn K).length=K.length:=by simp [kEn]
def clR (c:Cl):List V:=[.int .i64 c.arr,.int .i64 c.ver,.int .i64 c.at',.int .i64 c.n]
def QkV (C:List Cl):List V:=(C.map clR).flatten
theorem Qpx (C:List Cl):(QkV C).length=C.length * 4:=by
 induction C with
 | nil=>rfl
 | cons c C ih=>show ((clR c++QkV C)).length=_; rw [lA,ih]; simp [clR]; omega
theorem Qvk (C:List Cl) (c:Cl):QkV (C++[c])=QkV C++clR c:=by simp [QkV]
variable {n i t0 vb vm ve vs vc j t w k:Nat}
theorem QrX {seen:List Nat} (hn:seen.Nodup) (h:∀ i∈seen,i<n):seen.length≤n:=by
 have:=List.Nodup.length_le_of_subset hn (l₂:=List.range n) fun i hi=>List.mem_range.2 (h i hi)
 simpa using this
def kId (K:List (Int × List Int)) (i:Nat):Int:=(K.getD i (0,[])).1
theorem QDs {K:List (Int × List Int)} (h:i<K.length):(kEn K).getD i (V.any,V.any)=(.int .i64 (kId K i),.agg (Qb (K.getD i (0,[])).2)):=by
 rw [List.getD_eq_getElem?_getD,kEn,List.getElem?_map,List.getElem?_eq_getElem h]
 simp [kId,List.getD_eq_getElem?_getD,List.getElem?_eq_getElem h,Qb]
def itJ (g:Gr) (B:Bv) (S:St) (K:List (Int × List Int)) (E:Ev) (t0:Nat) (M:List Bool) (vb vm ve vs vc ti:Nat) (m:Nat) (fr:Fr) (σ:H):Prop :=
 ∃ t w seen out,t0≤t∧seen.Nodup∧(∀ i∈seen,i<K.length)∧m=K.length - seen.length∧out=seen.map (kId K)∧Qf fr 2=.ptr 12 vb 0∧Qf fr 3=.ptr 13 vm 0∧Qf fr 4=.ptr 14 ve 0∧Qf fr 5=.fn (.func Ql) [] [.ptr 12 vb 0,.ptr 13 vm 0]∧Qf fr 6=.sl 17 w 0 1 out.length none∧Qf fr 36=.ptr 18 ti 0∧σ=⟨t,bH g B S K E++[some (.arr vb 33 [.ptr 7 g.b 0]),some (.arr vm 49 [.lst 1 (nbs M) false]),some (.arr ve 26 [.sl 15 vs 0 1 0 none,.sl 16 vc 0 4 0 none]),some (.arr vs 2 []),some (.arr vc 63 []),some (.arr w 37 (Qb out)),some (.it ti 6 g.k K.length seen)]⟩
def itE (g:Gr) (B:Bv) (S:St) (K:List (Int × List Int)) (E:Ev) (t0:Nat) (M:List Bool) (vb vm ve vs vc:Nat) (e:AE) (fr:Fr) (σ:H):Prop :=
 ∃ t w out o18,t0≤t∧e=.ex 0∧(∀ x,x∈out↔∃ i,i<K.length∧x=kId K i)∧out.length≤K.length∧Qf fr 2=.ptr 12 vb 0∧Qf fr 3=.ptr 13 vm 0∧Qf fr 4=.ptr 14 ve 0∧Qf fr 5=.fn (.func Ql) [] [.ptr 12 vb 0,.ptr 13 vm 0]∧Qf fr 6=.sl 17 w 0 1 out.length none∧σ=⟨t,bH g B S K E++[some (.arr vb 33 [.ptr 7 g.b 0]),some (.arr vm 49 [.lst 1 (nbs M) false]),some (.arr ve 26 [.sl 15 vs 0 1 0 none,.sl 16 vc 0 4 0 none]),some (.arr vs 2 []),some (.arr vc 63 []),some (.arr w 37 (Qb out)),o18]⟩
variable {σ:H} {fr:Fr} {M:List Bool}
theorem Qu0 {g:Gr} {B:Bv} {S:St} {K:List (Int × List Int)} {E:Ev} {ti:Nat} (hKl:K.length≤1000000) {m:Nat} (hJ:itJ g B S K E t0 M vb vm ve vs vc ti m fr σ) :
 W P G 106 5 (zg QCp [37] (.seq (zw 38 .skip (.exit 0)) (.block 1 (zg QCo [39,40] (.reg QCn [41,42,43,44]))))) fr σ (QdW (fun fr σ=>∃ m' fr' σ',m'<m∧Shift G 106 5 fr σ fr' σ'∧itJ g B S K E t0 M vb vm ve vs vc ti m' fr' σ') (itE g B S K E t0 M vb vm ve vs vc)):=by
 obtain ⟨t,w,seen,out,ht,hn,hlt,rfl,ho,f2,f3,f4,f5,f6,f36,rfl⟩:=hJ
 have hsl:=QrX hn hlt
 have hol:out.length=seen.length:=by rw [ho,lM]
 refine Qm [(2,.ptr 12 vb 0),(3,.ptr 13 vm 0),(4,.ptr 14 ve 0),(5,.fn (.func Ql) [] [.ptr 12 vb 0,.ptr 13 vm 0]),(6,.sl 17 w 0 1 out.length none),(36,.ptr 18 ti 0)] ⟨f2,f3,f4,f5,f6,f36,trivial⟩  12 ?_
 simp -implicitDefEqProofs (disch:=omega) only [go_sem,↓reduceIte]
 simp only [evW]
 simp -implicitDefEqProofs (disch:=omega) only [go_sem,↓reduceIte,rA,rq,rL,rT,b_6,x18,y18,Qks,lC,lN,and_true]
 refine ⟨fun hall=>?_,fun i hi hni=>?_⟩
 ·refine ⟨t,w,out,_,ht,rfl,fun x=>?_,by omega,rfl,rfl,rfl,rfl,rfl,rfl⟩
  rw [ho,List.mem_map]
  constructor
  ·rintro ⟨i,hi,rfl⟩; exact ⟨i,hlt i hi,rfl⟩
  ·rintro ⟨i,hi,rfl⟩; exact ⟨i,hall i hi,rfl⟩
 ·have hgl:(seen++[i]).getLast?=some i:=by simp
  have hgd:=QDs hi
  have hn2:(seen++[i]).Nodup:=by rw [List.nodup_append]; exact ⟨hn,by simp,fun a ha b hb=>by simp at hb; subst hb; exact fun e=>hni (e▸ha)⟩
  have hlt2:∀ j∈seen++[i],j<K.length:=fun j hj=>by
   simp only [List.mem_append,List.mem_singleton] at hj
   rcases hj with hj | rfl
   ·exact hlt j hj
   ·exact hi
  have hsn:seen.length<K.length:=by
   have:=QrX hn2 hlt2
   simp at this; omega
  have hap:Qb out++[V.int .i64 (kId K i)]=Qb (out++[kId K i]):=by simp [Qb]
  have hln:out.length+1=(out++[kId K i]).length:=by simp
  simp only [evW]
  simp -implicitDefEqProofs (disch:=omega) only [go_sem,↓reduceIte,rq,b_6,x18,Qks,and_true,hgl,hgd,hi]
  have hks:(kId K i::[])=[kId K i]:=rfl
  refine Qs 100 ?_
  simp -implicitDefEqProofs (disch:=omega) only [go_sem,↓reduceIte,reduceCtorEq,rA,rq,rL,rT,x17,y17,lC,lN,cA,nA,true_and,and_true,hap,Qo]
  refine ⟨K.length - (seen.length+1),_,_,by omega,Shift.refl _ _ _ _,t+1,t,seen++[i],out++[kId K i],by omega,hn2,hlt2,by simp,by rw [ho,List.map_append]; rfl,?_⟩
  simp -implicitDefEqProofs (disch:=omega) only [go_sem,↓reduceIte,rq,hln]
def enT (L:List Nd) (tv:Int→Int) (s:List Int × List Cl) (id:Int):List Int × List Cl :=
 if (nd L id).kind=2 then ((s.1++List.replicate ((nd L id).n.toNat+1 - s.1.length) 0).set (nd L id).n.toNat (tv id),s.2) else
 if (nd L id).kind=3 then (s.1,s.2++[⟨(nd L id).a,(nd L id).n,tv (nd L id).y,tv id⟩]) else s
def enF (L:List Nd) (tv:Int→Int) (ids:List Int):List Int × List Cl:=ids.foldl (enT L tv) ([],[])
variable {ids:List Int}
theorem Qve {L:List Nd} {tv:Int→Int} {id:Int} (h:ids[j]?=some id):enF L tv (ids.take (j+1))=enT L tv (enF L tv (ids.take j)) id:=by
 unfold enF
 rw [List.take_add_one,h,List.foldl_append]; rfl
theorem Qnp {L:List Nd} {tv:Int→Int} (hL:∀ id,(nd L id).kind=2→(nd L id).n≤65536):∀ (ids:List Int) (s:List Int × List Cl),s.1.length≤65537→(ids.foldl (enT L tv) s).1.length≤65537∧(ids.foldl (enT L tv) s).2.length≤s.2.length+ids.length
 | [],s,h=>⟨h,by simp⟩
 | id::ids,s,h=>by
   rw [List.foldl_cons]
   have h1:(enT L tv s id).1.length≤65537∧(enT L tv s id).2.length≤s.2.length+1:=by
    unfold enT
    split
    ·rename_i hk
     have:=hL id hk
     simp; omega
    ·split
     ·simp; exact h
     ·exact ⟨h,by omega⟩
   obtain ⟨h2,h3⟩:=Qnp hL ids (enT L tv s id) h1.1
   exact ⟨h2,by simp; omega⟩
def enH (g:Gr) (B:Bv) (S:St) (K:List (Int × List Int)) (E:Ev) (M:List Bool) (ids:List Int) (vb vm ve w vs vc:Nat) (o18:Option Ob) (s:List Int) (c:List Cl) (r:List (Option Ob)):List (Option Ob) :=
 bH g B S K E++some (.arr vb 33 [.ptr 7 g.b 0])::some (.arr vm 49 [.lst 1 (nbs M) false])::some (.arr ve 26 [.sl 15 vs 0 1 s.length none,.sl 16 vc 0 4 c.length none])::some (.arr vs 2 (Qb s))::some (.arr vc 63 (QkV c))::some (.arr w 37 (Qb ids))::o18::r
def enJ (g:Gr) (B:Bv) (S:St) (K:List (Int × List Int)) (E:Ev) (t0:Nat) (M:List Bool) (ids:List Int) (vb vm ve w:Nat) (o18:Option Ob) (j:Nat) (fr:Fr) (σ:H):Prop :=
 ∃ t vs vc,t0≤t∧σ=⟨t,enH g B S K E M ids vb vm ve w vs vc o18 (enF g.L (fun id=>tlS M (kx K id) 64) (ids.take j)).1 (enF g.L (fun id=>tlS M (kx K id) 64) (ids.take j)).2 []⟩∧Qf fr 2=.ptr 12 vb 0∧Qf fr 4=.ptr 14 ve 0∧Qf fr 5=.fn (.func Ql) [] [.ptr 12 vb 0,.ptr 13 vm 0]∧Qf fr 47=.sl 17 w 0 1 ids.length none∧Qf fr 48=.int .i64 ids.length∧Qf fr 49=.int .i64 ((j:Nat):Int)
def enE (g:Gr) (B:Bv) (S:St) (K:List (Int × List Int)) (E:Ev) (t0:Nat) (M:List Bool) (ids:List Int) (vb vm ve w:Nat) (o18:Option Ob) (e:AE) (fr:Fr) (σ:H):Prop :=
 e=.ex 2∧∃ t vs vc,t0≤t∧σ=⟨t,enH g B S K E M ids vb vm ve w vs vc o18 (enF g.L (fun id=>tlS M (kx K id) 64) ids).1 (enF g.L (fun id=>tlS M (kx K id) 64) ids).2 []⟩∧Qf fr 4=.ptr 14 ve 0
variable {o18:Option Ob}
theorem Qs9 {g:Gr} {B:Bv} {S:St} {K:List (Int × List Int)} {E:Ev} {s:List Int} {c:List Cl} (r:List (Option Ob)):Shift G n 5 fr ⟨t,enH g B S K E M ids vb vm ve w vs vc o18 s c r⟩ fr ⟨t,enH g B S K E M ids vb vm ve w vs vc o18 s c []⟩ :=
 Shift.drop (Xc 19 (enH g B S K E M ids vb vm ve w vs vc o18 s c r)) (lR _) (by simp [enH])
theorem QBp {g:Gr} {B:Bv} {S:St} {K:List (Int × List Int)} {E:Ev} {x0 x1 x2 x3 x4 x5 x6:Option Ob} {r:List (Option Ob)}:List.take 19 (bH g B S K E++x0::x1::x2::x3::x4::x5::x6::r)=bH g B S K E++[x0,x1,x2,x3,x4,x5,x6]:=rfl
variable {I:Int→Int→Bool}
theorem Qvd (hT:Qe P tab) {val:Int→Int} {g:Gr} {B:Bv} {S:St} {K:List (Int × List Int)} {E:Ev} (cx:Ctx I g.L val) (h:Kn I g.L val S K E.l) (hM:M.length=S.gs.length) (hgl:S.gs.length≤9000000) (hids:ids.length≤1000000) (hk:∀ id∈ids,(kL K id).isSome=true) (hL2:∀ id,(nd g.L id).kind=2→0≤(nd g.L id).n∧(nd g.L id).n≤65536) {id:Int} (hid:ids[j]?=some id) (hJ:enJ g B S K E t0 M ids vb vm ve w o18 j fr σ) :
 W P G 106 5 we fr σ (QdW (fun fr σ=>∃ fr' σ',Shift G 106 5 fr σ fr' σ'∧enJ g B S K E t0 M ids vb vm ve w o18 (j+1) fr' σ') (enE g B S K E t0 M ids vb vm ve w o18)):=by
 obtain ⟨t,vs,vc,ht,rfl,f2,f4,f5,f47,f48,f49⟩:=hJ
 have hlt:=(List.getElem?_eq_some_iff.1 hid).1
 have hki:(j:Int)<ids.length:=by omega
 have hk0:(0:Int)≤(j:Int):=by omega
 have hw1:IntKind.i64.wrap ((j:Int)+1)=((j+1:Nat):Int):=by rw [wrap_i64 (by omega) (by omega)]; omega
 have gid:=Qgu hid
 have him:=List.mem_of_getElem? hid
 obtain ⟨x,hx⟩:=Option.isSome_iff_exists.1 (hk id him)
 obtain ⟨hr,nx,-⟩:=h.kn id x hx
 rw [← hM] at nx
 have hlen:=Qnp (L:=g.L) (tv:=fun id=>tlS M (kx K id) 64) (fun id h2=>(hL2 id h2).2) (ids.take j) ([],[]) (by simp)
 have hl1:(enF g.L (fun id=>tlS M (kx K id) 64) (ids.take j)).1.length≤65537:=hlen.1
 have hl2:(enF g.L (fun id=>tlS M (kx K id) 64) (ids.take j)).2.length≤1000000:=by
  have h9:(enF g.L (fun id=>tlS M (kx K id) 64) (ids.take j)).2.length≤([]:List Cl).length+(ids.take j).length:=hlen.2
  simp at h9
  omega
 unfold enJ
 rw [Qve hid]
 generalize enF g.L (fun id=>tlS M (kx K id) 64) (ids.take j)=sc at *
 obtain ⟨s,c⟩:=sc
 simp only at hl1 hl2
 have hN:=fun t ex=>QoI (P:=P) (G:=G) (g:=g) (S:=S) (K:=K) (E:=E) hT hr 5 t B ex
 have hTl:=fun (base t:Nat) (id:Int) (x:List Int) (hx:kL K id=some x) (nx:Nb M.length x) ex=>QDc (P:=P) (G:=G) (base:=base) (g:=g) (B:=B) (S:=S) (K:=K) (E:=E) (t:=t) (vb:=vb) (vm:=vm) (ex:=ex) (T:=33) (T2:=49) hT hx nx (by omega)
 have hkx:kx K id=x:=QeY hx
 refine Qm [(2,.ptr 12 vb 0),(4,.ptr 14 ve 0),(5,.fn (.func Ql) [] [.ptr 12 vb 0,.ptr 13 vm 0]),(47,.sl 17 w 0 1 ids.length none),(48,.int .i64 ids.length),(49,.int .i64 ((j:Nat):Int))] ⟨f2,f4,f5,f47,f48,f49,trivial⟩  1000 ?_
 unfold enH
 simp -implicitDefEqProofs (disch:=omega) only [go_sem,↓reduceIte,rA,rq,rL,b_7,x12,x17,lC,lN,true_implies,true_and,and_true,hki,hk0,hlt,Int.toNat_natCast,gid,Qo]
 refine call hT Xp (hN _ _) 1000 fun v σ hv=>?_
 obtain ⟨rfl,t1,ht1,rfl⟩:=hv
 rcases (cx.kd id hr.1 hr.2).1 with k1 | k2 | k3 | k4
 ·have e:enT g.L (fun id=>tlS M (kx K id) 64) (s,c) id=(s,c):=by rw [enT,if_neg (by omega),if_neg (by omega)]
  rw [e]
  simp -implicitDefEqProofs (disch:=omega) only [go_sem,↓reduceIte,rA,rq,rL,rT,Int.reduceEq,QA,Xi,x14,x19,y19,lC,lN,cA,nA,false_implies,true_implies,true_and,and_true,k1,Nd.cells,hw1]
  refine ⟨_,_,Qs9 _,t1+1,vs,vc,by omega,rfl,?_⟩
  simp -implicitDefEqProofs (disch:=omega) only [go_sem,↓reduceIte,rq]
 ·obtain ⟨n0,n1⟩:=hL2 id k2
  obtain ⟨N,hN'⟩:∃ N:Nat,N=(nd g.L id).n.toNat:=⟨_,rfl⟩
  have hNi:(nd g.L id).n=(N:Int):=by omega
  have e:enT g.L (fun id=>tlS M (kx K id) 64) (s,c) id=((s++List.replicate (N+1 - s.length) 0).set N (tlS M x 64),c):=by
   rw [enT,if_pos k2,← hN',hkx]
  rw [e]
  simp -implicitDefEqProofs (disch:=omega) only [go_sem,↓reduceIte,rA,rq,rL,rT,QA,Xi,x19,y19,lC,lN,cA,nA,true_implies,and_true,k2,Nd.cells]
  refine XK (N+1 - s.length) (fun q fr σ=>∃ t2 vs2 vn,t0≤t2∧σ=⟨t2,enH g B S K E M ids vb vm ve w vs2 vc o18 (s++List.replicate q 0) c [some (.arr vn 39 (nd g.L id).cells)]⟩∧Qf fr 2=.ptr 12 vb 0∧Qf fr 4=.ptr 14 ve 0∧Qf fr 5=.fn (.func Ql) [] [.ptr 12 vb 0,.ptr 13 vm 0]∧Qf fr 47=.sl 17 w 0 1 ids.length none∧Qf fr 48=.int .i64 ids.length∧Qf fr 49=.int .i64 ((j:Nat):Int)∧Qf fr 9=.int .i64 id∧Qf fr 10=.ptr 19 vn 0)
   (fun e fr σ=>e=.ex 5∧∃ t2 vs2 vn,t0≤t2∧σ=⟨t2,enH g B S K E M ids vb vm ve w vs2 vc o18 (s++List.replicate (N+1 - s.length) 0) c [some (.arr vn 39 (nd g.L id).cells)]⟩∧Qf fr 2=.ptr 12 vb 0∧Qf fr 4=.ptr 14 ve 0∧Qf fr 5=.fn (.func Ql) [] [.ptr 12 vb 0,.ptr 13 vm 0]∧Qf fr 47=.sl 17 w 0 1 ids.length none∧Qf fr 48=.int .i64 ids.length∧Qf fr 49=.int .i64 ((j:Nat):Int)∧Qf fr 9=.int .i64 id∧Qf fr 10=.ptr 19 vn 0) ⟨t1+1,vs,t1,by omega,?_,by simp -implicitDefEqProofs (disch:=omega) only [go_sem,↓reduceIte],by simp -implicitDefEqProofs (disch:=omega) only [go_sem,↓reduceIte,rq],by simp -implicitDefEqProofs (disch:=omega) only [go_sem,↓reduceIte,rq],by simp -implicitDefEqProofs (disch:=omega) only [go_sem,↓reduceIte,rq],by simp -implicitDefEqProofs (disch:=omega) only [go_sem,↓reduceIte,rq],by simp -implicitDefEqProofs (disch:=omega) only [go_sem,↓reduceIte,rq],by simp -implicitDefEqProofs (disch:=omega) only [go_sem,↓reduceIte,rq],by simp -implicitDefEqProofs (disch:=omega) only [go_sem,↓reduceIte,rq]⟩ (fun q hq fr σ hJ=>?_) (fun q hq fr σ hJ=>?_) (fun e fr σ hE=>?_)
  ·simp [enH,Nd.cells,k2]
  ·obtain ⟨t2,vs2,vn,ht2,rfl,f2,f4,f5,f47,f48,f49,f9,f10⟩:=hJ
   have hsl:(s++List.replicate q 0).length=s.length+q:=by simp
   have hrs:s++List.replicate (q+1) 0=(s++List.replicate q 0)++[(0:Int)]:=by rw [List.replicate_succ',aA]
   rw [hrs]
   generalize s++List.replicate q 0=s2 at *
   have hle:(s2.length:Int)≤(nd g.L id).n:=by omega
   have hap:Qb s2++[V.int .i64 0]=Qb (s2++[0]):=by simp [Qb]
   have hs1:(s2++[(0:Int)]).length=s2.length+1:=by simp
   refine Qm [(2,.ptr 12 vb 0),(4,.ptr 14 ve 0),(5,.fn (.func Ql) [] [.ptr 12 vb 0,.ptr 13 vm 0]),(47,.sl 17 w 0 1 ids.length none),(48,.int .i64 ids.length),(49,.int .i64 ((j:Nat):Int)),(9,.int .i64 id),(10,.ptr 19 vn 0)] ⟨f2,f4,f5,f47,f48,f49,f9,f10,trivial⟩  1000 ?_
   unfold enH
   simp -implicitDefEqProofs (disch:=omega) only [go_sem,↓reduceIte,reduceCtorEq,rA,rq,rL,x14,x15,x19,y14,y15,lC,lN,cA,nA,true_implies,true_and,and_true,Nd.cells,hle,hap,Qo]
   refine ⟨_,_,Shift.refl _ _ _ _,t2+1,t2,vn,by omega,?_,?_⟩
   ·simp [Qb]
   ·simp -implicitDefEqProofs (disch:=omega) only [go_sem,↓reduceIte,rq]
  ·obtain ⟨t2,vs2,vn,ht2,rfl,f2,f4,f5,f47,f48,f49,f9,f10⟩:=hJ
   have hsl:(s++List.replicate q 0).length=s.length+q:=by simp
   rw [hq] at hsl
   rw [hq]
   generalize s++List.replicate (N+1 - s.length) 0=s2 at *
   have hle:¬ (s2.length:Int)≤(nd g.L id).n:=by omega
   refine Qm [(2,.ptr 12 vb 0),(4,.ptr 14 ve 0),(5,.fn (.func Ql) [] [.ptr 12 vb 0,.ptr 13 vm 0]),(47,.sl 17 w 0 1 ids.length none),(48,.int .i64 ids.length),(49,.int .i64 ((j:Nat):Int)),(9,.int .i64 id),(10,.ptr 19 vn 0)] ⟨f2,f4,f5,f47,f48,f49,f9,f10,trivial⟩  1000 ?_
   unfold enH
   simp -implicitDefEqProofs (disch:=omega) only [go_sem,↓reduceIte,rA,rq,rL,x14,x19,lC,lN,true_implies,true_and,and_true,Nd.cells,hle]
   exact ⟨t2,vs2,vn,ht2,⟨rfl,rfl⟩,rfl⟩
  ·obtain ⟨rfl,t2,vs2,vn,ht2,rfl,f2,f4,f5,f47,f48,f49,f9,f10⟩:=hE
   have hsl:N<(s++List.replicate (N+1 - s.length) 0).length:=by simp; omega
   generalize s++List.replicate (N+1 - s.length) 0=s2 at *
   have hnl:(nd g.L id).n<(s2.length:Int):=by omega
   have hset:List.take N (Qb s2)++[V.int .i64 (tlS M x 64)]++List.drop (N+1) (Qb s2)=Qb (s2.set N (tlS M x 64)):=by
    unfold Qb
    rw [List.map_set,List.set_eq_take_append_cons_drop,if_pos (by simp; omega)]
    simp
   refine YT [(2,.ptr 12 vb 0),(4,.ptr 14 ve 0),(5,.fn (.func Ql) [] [.ptr 12 vb 0,.ptr 13 vm 0]),(47,.sl 17 w 0 1 ids.length none),(48,.int .i64 ids.length),(49,.int .i64 ((j:Nat):Int)),(9,.int .i64 id),(10,.ptr 19 vn 0)] ⟨f2,f4,f5,f47,f48,f49,f9,f10,trivial⟩ 1000 ?_
   unfold enH
   simp -implicitDefEqProofs (disch:=omega) only [go_sem,↓reduceIte,rA,rq,rL,QA,x14,x19,lC,lN,true_implies,and_true,Nd.cells,k2]
   refine Qjm hT X1 (hTl 20 _ id x hx nx _) 1000 fun v σ hv=>?_
   obtain ⟨rfl,rfl⟩:=hv
   have hN0:(0:Int)≤(N:Int):=by omega
   have hN1:(N:Int)<(s2.length:Int):=by omega
   have hN2:N<s2.length:=hsl
   simp -implicitDefEqProofs (disch:=omega) only [go_sem,↓reduceIte,rq,rL,x15,y15,lC,lN,true_and,and_true,hNi,hN0,hN2,Int.toNat_natCast,hset,Qo,List.length_set,hw1]
   refine ⟨_,_,Shift.drop (Xc 19 _) (lR _) (by simp [QK]),t2,vs2,vc,ht2,?_,?_⟩
   ·rw [QBp]; try simp [enH]
   ·simp -implicitDefEqProofs (disch:=omega) only [go_sem,↓reduceIte,rq]
 ·obtain ⟨y,hy⟩:=Option.isSome_iff_exists.1 (h.cl id (hk id him) _ (QCM k3))
  obtain ⟨-,ny,-⟩:=h.kn _ y hy
  rw [← hM] at ny
  have hky:kx K (nd g.L id).y=y:=QeY hy
  have e:enT g.L (fun id=>tlS M (kx K id) 64) (s,c) id=(s,c++[⟨(nd g.L id).a,(nd g.L id).n,tlS M y 64,tlS M x 64⟩]):=by
   rw [enT,if_neg (by omega),if_pos k3,hkx,hky]
  rw [e]
  simp -implicitDefEqProofs (disch:=omega) only [go_sem,↓reduceIte,rA,rq,rL,rT,Int.reduceEq,QA,Xi,x14,x19,y19,lC,lN,cA,nA,false_implies,true_implies,true_and,and_true,k3,Nd.cells]
  refine Qjm hT X1 (hTl 20 _ _ y hy ny _) 1000 fun v σ hv=>?_
  obtain ⟨rfl,rfl⟩:=hv
  simp -implicitDefEqProofs (disch:=omega) only [go_sem,↓reduceIte,rA,rq,QA,lC,lN]
  refine Qjm hT X1 (hTl 20 _ id x hx nx _) 1000 fun v σ hv=>?_
  obtain ⟨rfl,rfl⟩:=hv
  simp -implicitDefEqProofs (disch:=omega) only [go_sem,↓reduceIte,reduceCtorEq,rA,rq,rL,x14,x16,y14,y16,lC,lN,cA,nA,true_and,and_true,Qpx,hw1]
  refine ⟨_,_,Shift.drop (Xc 19 _) (lR _) (by simp [QK]),t1+1+1,vs,t1+1,by omega,?_,?_⟩
  ·rw [QBp]; try simp [Qvk,clR]
  ·simp -implicitDefEqProofs (disch:=omega) only [go_sem,↓reduceIte,rq]
 ·have e:enT g.L (fun id=>tlS M (kx K id) 64) (s,c) id=(s,c):=by rw [enT,if_neg (by omega),if_neg (by omega)]
  rw [e]
  simp -implicitDefEqProofs (disch:=omega) only [go_sem,↓reduceIte,rA,rq,rL,rT,Int.reduceEq,QA,Xi,x14,x19,y19,lC,lN,cA,nA,false_implies,true_implies,true_and,and_true,k4,Nd.cells,hw1]
  refine ⟨_,_,Qs9 _,t1+1,vs,vc,by omega,rfl,?_⟩
  simp -implicitDefEqProofs (disch:=omega) only [go_sem,↓reduceIte,rq]
theorem QsE {K:List (Int × List Int)} (h:i<K.length):(kL K (kId K i)).isSome=true:=by
 unfold kL
 rw [Option.isSome_map,List.find?_isSome]
 refine ⟨K[i],List.getElem_mem h,?_⟩
 simp [kId,List.getD_eq_getElem?_getD,List.getElem?_eq_getElem h]
theorem Qst {K:List (Int × List Int)} {x:Int} (h:(kL K x).isSome=true):∃ i,i<K.length∧x=kId K i:=by
 unfold kL at h
 rw [Option.isSome_map,List.find?_isSome] at h
 obtain ⟨p,hp,he⟩:=h
 obtain ⟨i,hi⟩:=List.mem_iff_getElem?.1 hp
 obtain ⟨h1,h2⟩:=List.getElem?_eq_some_iff.1 hi
 refine ⟨i,h1,?_⟩
 rw [of_decide_eq_true he,kId,List.getD_eq_getElem?_getD,hi]; rfl
theorem QDH {g:Gr} {B:Bv} {S:St} {K:List (Int × List Int)} {E:Ev} (hj:j=ids.length) (hJ:enJ g B S K E t0 M ids vb vm ve w o18 j fr σ) :
 W P G 106 5 we fr σ (QdW (fun _ _=>False) (enE g B S K E t0 M ids vb vm ve w o18)):=by
 obtain ⟨t,vs,vc,ht,rfl,f2,f4,f5,f47,f48,f49⟩:=hJ
 rw [hj,List.take_length]
 unfold enE
 refine Qm [(2,.ptr 12 vb 0),(4,.ptr 14 ve 0),(5,.fn (.func Ql) [] [.ptr 12 vb 0,.ptr 13 vm 0]),(47,.sl 17 w 0 1 ids.length none),(48,.int .i64 ids.length),(49,.int .i64 ((j:Nat):Int))] ⟨f2,f4,f5,f47,f48,f49,trivial⟩  1000 ?_
 simp -implicitDefEqProofs (disch:=omega) only [go_sem,↓reduceIte,rq,hj,Int.lt_irrefl]
 first | exact ⟨t,vs,vc,ht,rfl⟩ | exact ⟨t,vs,vc,ht,rfl,rfl⟩ | exact ⟨t,vs,vc,ht,⟨rfl,rfl⟩,rfl⟩
theorem k_Env0 (hT:Qe P tab) (SO:Xb P) {val:Int→Int} {g:Gr} {B:Bv} {S:St} {K:List (Int × List Int)} {E:Ev} (cx:Ctx I g.L val) (h:Kn I g.L val S K E.l) (hM:M.length=S.gs.length) (hgl:S.gs.length≤9000000) (hKl:K.length≤1000000) (hL2:∀ id,(nd g.L id).kind=2→0≤(nd g.L id).n∧(nd g.L id).n≤65536) :
 C P G 5 XU [.ptr 7 g.b 0,.lst 1 (nbs M) false] ⟨t,bH g B S K E⟩ fun v σ=>∃ ids t' vb vm ve w vs vc o18,(∀ x,x∈ids↔(kL K x).isSome=true)∧ids.length≤1000000∧t≤t' ∧
   v=.agg [.sl 15 vs 0 1 (enF g.L (fun id=>tlS M (kx K id) 64) ids).1.length none,.sl 16 vc 0 4 (enF g.L (fun id=>tlS M (kx K id) 64) ids).2.length none]∧σ=⟨t',enH g B S K E M ids vb vm ve w vs vc o18 (enF g.L (fun id=>tlS M (kx K id) 64) ids).1 (enF g.L (fun id=>tlS M (kx K id) 64) ids).2 []⟩:=by
 refine Qq hT Qa2 (by simp [Yz]) (Qn 6 ?_)
 simp -implicitDefEqProofs (disch:=omega) only [go_sem,↓reduceIte,reduceCtorEq,rA,rq,QK,QA,Xi,lC,lN,cA,nA,and_true]
 refine XT (HShift.shift (HShift.ownAt 1 2 (k:=14) (p:=0) (by omega) rfl rfl)) (Qs 0 ?_)
 refine XT (HShift.shift (HShift.ownAt 4 63 (k:=14) (p:=1) (by omega) rfl rfl)) (Qs 1000 ?_)
 simp -implicitDefEqProofs (disch:=omega) only [go_sem,↓reduceIte,reduceCtorEq,rA,rq,rL,Int.reduceToNat,Int.reduceLE,b_6,b_7,QA,Xi,x12,x13,y14,Qks,lC,lN,cA,nA,true_implies,true_and,and_true,List.set_cons_zero,List.set_cons_succ,Ym,hM]
 simp only [evW]
 simp -implicitDefEqProofs (disch:=omega) only [go_sem,↓reduceIte,reduceCtorEq,rA,rq,b_6,QA,Xi,Qks,lC,lN,cA,nA]
 refine QdX (itJ g B S K E t M t (t+1) (t+1+1) (t+1+1+1) (t+1+1+1+1) (t+1+1+1+1+1+1)) (itE g B S K E t M t (t+1) (t+1+1) (t+1+1+1) (t+1+1+1+1)) (m0:=K.length) ⟨_,t+1+1+1+1+1,[],[],by omega,List.nodup_nil,(fun i hi=>by cases hi),by simp,rfl,by simp -implicitDefEqProofs (disch:=omega) only [go_sem,↓reduceIte,reduceCtorEq,rq],by simp -implicitDefEqProofs (disch:=omega) only [go_sem,↓reduceIte,reduceCtorEq,rq],by simp -implicitDefEqProofs (disch:=omega) only [go_sem,↓reduceIte,reduceCtorEq,rq],by simp -implicitDefEqProofs (disch:=omega) only [go_sem,↓reduceIte,reduceCtorEq,rq],by simp -implicitDefEqProofs (disch:=omega) only [go_sem,↓reduceIte,reduceCtorEq,rq],by simp -implicitDefEqProofs (disch:=omega) only [go_sem,↓reduceIte,reduceCtorEq,rq],rfl⟩ (fun m fr σ hJ=>Qu0 hKl hJ) (fun e fr σ hE=>?_)
 obtain ⟨t1,w,out,o18,ht1,rfl,hmem,hol,f2,f3,f4,f5,f6,rfl⟩:=hE
 have hSo:=QB2 (P:=P) (G:=G) SO (base:=5) (k:=17) (v:=w) (T:=37) (t:=t1) (o:=bH g B S K E++[some (.arr t 33 [.ptr 7 g.b 0]),some (.arr (t+1) 49 [.lst 1 (nbs M) false]),some (.arr (t+1+1) 26 [.sl 15 (t+1+1+1) 0 1 0 none,.sl 16 (t+1+1+1+1) 0 4 0 none]),some (.arr (t+1+1+1) 2 []),some (.arr (t+1+1+1+1) 63 []),some (.arr w 37 (Qb out)),o18]) (zs:=out) (n:=out.length) (lim:=none) (by omega) rfl rfl (by omega)
 rw [y17] at hSo
 have hids:∀ x,x∈(out.mergeSort fun x y=>decide (x≤y))↔(kL K x).isSome=true:=fun x=>by
  rw [List.mem_mergeSort,hmem]
  constructor
  ·rintro ⟨i,hi,rfl⟩; exact QsE hi
  ·intro hx; exact Qst hx
 have hil:(out.mergeSort fun x y=>decide (x≤y)).length=out.length:=List.length_mergeSort ..
 generalize (out.mergeSort fun x y=>decide (x≤y))=ids at *
 rw [← hil] at f6 hSo
 refine YT [(2,.ptr 12 t 0),(3,.ptr 13 (t+1) 0),(4,.ptr 14 (t+1+1) 0),(5,.fn (.func Ql) [] [.ptr 12 t 0,.ptr 13 (t+1) 0]),(6,.sl 17 w 0 1 ids.length none)] ⟨f2,f3,f4,f5,f6,trivial⟩ 1000 ?_
 simp -implicitDefEqProofs (disch:=omega) only [go_sem,↓reduceIte,rq]
 refine call hT YF hSo 1000 fun v σ hv=>?_
 obtain ⟨rfl,rfl⟩:=hv
 simp -implicitDefEqProofs (disch:=omega) only [go_sem,↓reduceIte,rq]
 refine ZF ids (enJ g B S K E t M ids t (t+1) (t+1+1) w o18) (enE g B S K E t M ids t (t+1) (t+1+1) w o18) ⟨t1,t+1+1+1,t+1+1+1+1,ht1,rfl,by simp -implicitDefEqProofs (disch:=omega) only [go_sem,↓reduceIte],by simp -implicitDefEqProofs (disch:=omega) only [go_sem,↓reduceIte,rq],by simp -implicitDefEqProofs (disch:=omega) only [go_sem,↓reduceIte,rq],by simp -implicitDefEqProofs (disch:=omega) only [go_sem,↓reduceIte,rq],by simp -implicitDefEqProofs (disch:=omega) only [go_sem,↓reduceIte,rq],by simp -implicitDefEqProofs (disch:=omega) only [go_sem,↓reduceIte,rq]; rfl⟩ (fun j id hid fr σ hJ=>Qvd hT cx h hM hgl (by omega) (fun id hm=>(hids id).1 hm) hL2 hid hJ) (fun j hj fr σ hJ=>QDH hj hJ) (fun e fr σ hE=>?_)
 obtain ⟨rfl,t2,vs,vc,ht2,rfl,f4⟩:=hE
 refine Qs 1000 ?_
 unfold enH
 simp -implicitDefEqProofs (disch:=omega) only [go_sem,↓reduceIte,reduceCtorEq,rA,rq,rL,x14,y14,lC,lN,cA,nA,false_implies,and_true,f4]
 exact ⟨ids,t2,t,t+1,t+1+1,w,vs,vc,o18,hids,by omega,by omega,rfl,rfl,rfl⟩
theorem QjO:∀ C:List Cl,QaK 4 C.length (QkV C)=C.map Cl.v
 | []=>rfl
 | c::C=>by
   have h:QkV (c::C)=clR c++QkV C:=by simp [QkV]
   rw [h,lC,QaK,List.map_cons,← QjO C]
   rfl
theorem QnI:∀ C:List Cl,Qc (QkV C)=true
 | []=>rfl
 | c::C=>by
   have h:QkV (c::C)=clR c++QkV C:=by simp [QkV]
   rw [h]
   simp only [clR,cA,nA,Qc,Qd,QnI C,Bool.and_true]
theorem QDx {r:Nat} {B:List Cl}:Zt k r (QkV B) (.sl k r 0 4 B.length none)=.lst 4 (B.map Cl.v) false:=by
 have h:=Qpx B
 rw [Zt,if_pos ⟨rfl,rfl⟩,if_pos ⟨by omega,by omega⟩,Qhv,if_neg (by omega),List.drop_zero,QjO]
theorem Qh3 {cs:List V} (hk:12≤k) {g:Gr} {B:Bv} {S:St} {K:List (Int × List Int)} {E:Ev} {o:List (Option Ob)} (h:List.take 12 o=bH g B S K E):List.take 12 (QT (Zt k w cs) 5 (o.set k none))=bH g B S K E:=by
 have e:o=bH g B S K E++o.drop 12:=by rw [← h,List.take_append_drop]
 rw [e,List.set_append_right _ _ (by rw [QK]; exact hk)]
 exact QsW hk
theorem k_Env1 (hT:Qe P tab) (SO:Xb P) {val:Int→Int} {g:Gr} {B:Bv} {S:St} {K:List (Int × List Int)} {E:Ev} (cx:Ctx I g.L val) (h:Kn I g.L val S K E.l) (hM:M.length=S.gs.length) (hgl:S.gs.length≤9000000) (hKl:K.length≤1000000) (hL2:∀ id,(nd g.L id).kind=2→0≤(nd g.L id).n∧(nd g.L id).n≤65536) :
 C P G 5 XU [.ptr 7 g.b 0,.lst 1 (nbs M) false] ⟨t,bH g B S K E⟩ fun v σ=>∃ ids vc T,(∀ x,x∈ids↔(kL K x).isSome=true)∧ids.length≤1000000∧t≤σ.t ∧
   v=.agg [.lst 1 (Qb (enF g.L (fun id=>tlS M (kx K id) 64) ids).1) false,.sl 16 vc 0 4 (enF g.L (fun id=>tlS M (kx K id) 64) ids).2.length none]∧List.take 12 σ.o=bH g B S K E∧σ.o[16]?=some (some (.arr vc T (QkV (enF g.L (fun id=>tlS M (kx K id) 64) ids).2))):=by
 refine Qaq (k_Env0 hT SO cx h hM hgl hKl hL2) fun v σ hq=>?_
 obtain ⟨ids,t',vb,vm,ve,w,vs,vc,o18,hids,hil,ht,rfl,rfl⟩:=hq
 refine .inr ⟨15,vs,2,Qb (enF g.L (fun id=>tlS M (kx K id) 64) ids).1,by decide,rfl,QB _,ids,vc,63,hids,hil,ht,?_,Qh3 (by decide) rfl,?_⟩
 ·have:=QsV (k:=15) (w:=vs) (enF g.L (fun id=>tlS M (kx K id) 64) ids).1
  simp only [Zt,QmW] at this ⊢
  rw [this]
  simp
 ·show (QT _ 5 ((enH g B S K E M ids vb vm ve w vs vc o18 _ _ []).set 15 none))[16]?=_
  rw [Y8,if_neg (by decide),List.getElem?_set,if_neg (by decide)]
  unfold enH
  rw [x16]
  have:=QBt (k:=15) (v:=vs) (j:=0) (cs:=Qb (enF g.L (fun id=>tlS M (kx K id) 64) ids).1) (by omega) (.arr vc 63 (QkV (enF g.L (fun id=>tlS M (kx K id) 64) ids).2)) (Qi _ (QnI _))
  simp only [Option.map_some,this]
theorem k_Env (hT:Qe P tab) (SO:Xb P) {val:Int→Int} {g:Gr} {B:Bv} {S:St} {K:List (Int × List Int)} {E:Ev} (cx:Ctx I g.L val) (h:Kn I g.L val S K E.l) (hM:M.length=S.gs.length) (hgl:S.gs.length≤9000000) (hKl:K.length≤1000000) (hL2:∀ id,(nd g.L id).kind=2→0≤(nd g.L id).n∧(nd g.L id).n≤65536) :
 C P G 5 XU [.ptr 7 g.b 0,.lst 1 (nbs M) false] ⟨t,bH g B S K E⟩ fun v σ=>∃ ids,(∀ x,x∈ids↔(kL K x).isSome=true)∧ids.length≤1000000 ∧
   v=QhC (enF g.L (fun id=>tlS M (kx K id) 64) ids).1 false 4 (enF g.L (fun id=>tlS M (kx K id) 64) ids).2 false∧∃ t',t≤t'∧σ=⟨t',bH g B S K E⟩:=by
 refine Qh 12 (by decide) (Qaq (k_Env1 hT SO cx h hM hgl hKl hL2) fun v σ hq=>?_)
 obtain ⟨ids,vc,T,hids,hil,ht,rfl,h12,h16⟩:=hq
 refine .inr ⟨16,vc,T,QkV (enF g.L (fun id=>tlS M (kx K id) 64) ids).2,by decide,h16,QnI _,?_,ids,hids,hil,?_,σ.t,ht,?_⟩
 ·have h17:=(List.getElem?_eq_some_iff.1 h16).1
  simp only [QH,List.length_set]; omega
 ·have:=QDx (k:=16) (r:=vc) (B:=(enF g.L (fun id=>tlS M (kx K id) 64) ids).2)
  unfold QhC
  simp only [Zt,QmW] at this ⊢
  rw [this]
 ·show H.mk σ.t (List.take 12 (QT _ 5 (σ.o.set 16 none)))=_
  rw [Qh3 (by decide) h12]
end
end Go.Proofs.YtoeicjlflmmmcaaGreatDoor
