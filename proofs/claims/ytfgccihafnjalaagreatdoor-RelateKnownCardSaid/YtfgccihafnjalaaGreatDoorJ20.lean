/- The law RelateKnown: rows of pairs, and the laws at them. -/
import Derived.Test.YtfgccihafnjalaaGreatDoorJ19
import Derived.Test.YtfgccihafnjalaaGreatDoorJ11
import Derived.Test.YtfgccihafnjalaaGreatDoorY
open Nat renaming reduceEqDiff → rq, reduceAdd → rA, reduceLeDiff → rL, reduceLT → rT, zero_add → zA, le_refl → lR, zero_le → zL, add_zero → aZ
open List renaming length_cons → lC, length_nil → lN, take_succ_cons → tS, length_append → lA, nil_append → nA, cons_append → cA, append_assoc → aA, take_nil → tN, take_zero → tZ, length_map → lM
open Bool renaming not_false → nF, not_true → nT
namespace Go.Proofs.YtfgccihafnjalaaGreatDoor
open Go Go.Am Go.Re
set_option maxRecDepth 100000
set_option maxHeartbeats 1000000
section
attribute [local go_sem] nT cA List.drop_nil List.drop_succ_cons List.drop_zero lC lN nA List.set_cons_zero tN tS tZ lR zA and_true decide_true QC not_false_eq_true Qxv Qxu Qxt true_and
def kp (i:Nat):Pr:=⟨((i:Nat):Int) % 5 - 2,((i:Nat):Int) % 4,((i:Nat):Int) % 7 - 1⟩
def l48:List Pr:=(List.range 48).map kp
theorem Qp8:l48.length=48:=by simp [l48]
variable {i:Nat}
theorem QJm (h:i<48):l48[i]?=some (kp i):=by simp [l48,h]
theorem QFV:∀ x∈l48,i64 x.n:=fun x hx=>by
 obtain ⟨i,_,rfl⟩:=List.mem_map.1 hx
 unfold kp i64; simp only; omega
theorem QpX (l:List Pr) (a b:Nat):((prs l).drop a).take b=prs ((l.drop a).take b):=by
 unfold prs; rw [List.map_take,List.map_drop]
abbrev k0J:Nat→Fr→Am.H→Prop:=fun i fr σ=>∃ t w,Qf fr 1=.sl 0 w 0 3 i none∧Qf fr 2=.int .i64 ((i:Nat):Int)∧σ=⟨t,[some (.arr w 64 (fl prC (l48.take i)))]⟩
abbrev k0E:AE→Fr→Am.H→Prop:=fun e fr σ=>∃ t w,e=.ex 0∧Qf fr 1=.sl 0 w 0 3 48 none∧σ=⟨t,[some (.arr w 64 (fl prC l48))]⟩
theorem QBm {P:Program} {G:Nat→Option V} (hT:Qi P tab) (hi:i<48) {fr:Fr} {σ:Am.H} (hJ:k0J i fr σ) :
 W P G 107 0 wT fr σ (Yv (fun fr σ=>∃ fr' σ',Shift G 107 0 fr σ fr' σ'∧k0J (i+1) fr' σ') k0E):=by
 obtain ⟨t,w,f1,f2,rfl⟩:=hJ
 have hlt:((i:Nat):Int)<48:=by omega
 have e2:=Yj hi (by omega)
 have m5:IntKind.i64.wrap ((((i:Nat):Int)).tmod 5 - 2)=((i:Nat):Int) % 5 - 2:=by rw [Int.tmod_eq_emod_of_nonneg (by omega),Qan (by omega)]
 have m4:IntKind.u8.wrap ((((i:Nat):Int)).tmod 4)=((i:Nat):Int) % 4:=by
  rw [Int.tmod_eq_emod_of_nonneg (by omega),Y0]
  ·simp [IntKind.min,IntKind.signed]; omega
  ·simp [IntKind.max,IntKind.signed,IntKind.bits]; omega
 have m7:IntKind.i64.wrap ((((i:Nat):Int)).tmod 7 - 1)=((i:Nat):Int) % 7 - 1:=by rw [Int.tmod_eq_emod_of_nonneg (by omega),Qan (by omega)]
 have hst:l48.take (i+1)=l48.take i++[kp i]:=Qw (QJm hi)
 have htl:(l48.take i).length=i:=by rw [List.length_take,Qp8]; omega
 have hfl:(fl prC (l48.take i)).length=i * 3:=by rw [X8,htl]
 have hfo:=Qg8 (l48.take i) (kp i)
 rw [← hst] at hfo
 unfold kp at hfo
 refine Qe [(1,.sl 0 w 0 3 i none),(2,.int .i64 ((i:Nat):Int))] ⟨f1,f2,trivial⟩  12 ?_
 refine yc ?_
 iterate 12 (try (refine Qa 4 ?_; simp -implicitDefEqProofs (disch:=omega) only [go_sem,↓reduceIte,reduceCtorEq,rA,rq,rL,Int.reduceEq,List.getElem?_cons_zero,m5,m4,m7,hfl,hfo,e2]))
 refine ⟨_,_,Shift.refl _ _ _ _,t+1,t,?_⟩
 exact yb
end
section
attribute [local go_sem] nF nT aZ lR Nat.mul_one Nat.one_mul Nat.succ_ne_zero zA zL Nat.zero_mul Option.getD_none Option.getD_some Option.isSome_none Option.isSome_some beq_self_eq_true bne_self_eq_false decide_false decide_true ge_iff_le gt_iff_lt QC Q7 zq4_0 zq4_1 QuA Quz QCE zq4_2 Qxv Qxu Qxt zq4_6 QAh QAg QAf
structure KwL (P:Program) (G:Nat→Option V):Prop where
 works:Works P G
 sets:∀ a b ta tb,Am.Pure P G XW [.lst 3 (prs a) ta,.lst 3 (prs b) tb] fun u=>u=.bool true
 fresh:∀ l tg,(∀ x∈l,i64 x.n)→∀ {vars slots params next:Int},0≤vars∧vars≤255→0≤slots∧slots≤255→Am.Pure P G XM [.lst 3 (prs l) tg,.int .u8 vars,.int .u8 slots,.int .i64 params,.int .i64 next] fun u=>u=.bool true
 all:∀ (picks:List Int) tg,(∀ b∈picks,0≤b∧b≤255)→∀ {vars slots params:Int},0≤vars∧vars≤255→0≤slots∧slots≤255→Am.Pure P G X1 [.lst 1 (u8s picks) tg,.int .u8 vars,.int .u8 slots,.int .i64 params] fun u=>u=.bool true
abbrev k1J:Nat→Fr→Am.H→Prop:=fun i fr σ=>∃ t,Qf fr 1=.lst 3 (prs l48) false∧Qf fr 3=.int .i64 ((i:Nat):Int)∧σ=⟨t,[]⟩
abbrev k1E:AE→Fr→Am.H→Prop:=fun e fr σ=>∃ t,e=.ex 2∧σ=⟨t,[]⟩
theorem sub64 {l:List Pr} (h:∀ x∈l,i64 x.n) (a b:Nat):∀ x∈(l.drop a).take b,i64 x.n:=fun x hx=>h x (List.mem_of_mem_drop (List.mem_of_mem_take hx))
variable {σ:Am.H} {fr:Fr} {i:Nat} {G:Nat→Option V} {P:Program}
theorem QBl (hT:Qi P tab) (K:KwL P G) (hi:i<16) (hJ:k1J i fr σ) :
 W P G 107 0 wU fr σ (Yv (fun fr σ=>∃ fr' σ',Shift G 107 0 fr σ fr' σ'∧k1J (i+1) fr' σ') k1E):=by
 obtain ⟨t,f1,f3,rfl⟩:=hJ
 have hlt:((i:Nat):Int)<16:=by omega
 have e2:=Yj (n:=16) hi (by omega)
 have h48:((prs l48).length:Nat)=48:=by rw [Qh,Qp8]
 have w3:IntKind.i64.wrap (((i:Nat):Int) * 3)=((i * 3:Nat):Int):=by rw [Qan (by omega)]; omega
 have w33:IntKind.i64.wrap (((i * 3:Nat):Int)+3)=((i * 3+3:Nat):Int):=by rw [Qan (by omega)]; omega
 have w20:IntKind.i64.wrap (((i:Nat):Int)+20)=((i+20:Nat):Int):=by rw [Qan (by omega)]; omega
 have w12:IntKind.i64.wrap (((i:Nat):Int)+12)=((i+12:Nat):Int):=by rw [Qan (by omega)]; omega
 have u8w:∀ n:Int,0≤n→n≤255→IntKind.u8.wrap n=n:=fun n h0 h1=>by
  rw [Y0]
  ·simp [IntKind.min,IntKind.signed]; omega
  ·simp [IntKind.max,IntKind.signed,IntKind.bits]; omega
 have u0:=u8w ((i:Nat):Int) (by omega) (by omega)
 have w8:IntKind.i64.wrap (((i:Nat):Int) * 8)=((i:Nat):Int) * 8:=Qan (by omega)
 have u8a:=u8w (((i:Nat):Int) * 8) (by omega) (by omega)
 have u3a:=u8w ((i * 3:Nat):Int) (by omega) (by omega)
 have p20:List.take 20 (prs l48)=prs (l48.take 20):=QpX l48 0 20
 have s1:List.take (i+20 - i) (List.drop i (prs l48))=prs ((l48.drop i).take 20):=by rw [show i+20 - i=20 by omega,QpX]
 have s2:List.take (i * 3+3 - i * 3) (List.drop (i * 3) (prs l48))=prs ((l48.drop (i * 3)).take 3):=by rw [show i * 3+3 - i * 3=3 by omega,QpX]
 have s3:List.take (i+12 - i) (List.drop i (prs l48))=prs ((l48.drop i).take 12):=by rw [show i+12 - i=12 by omega,QpX]
 have a1:i * 3+3≤48:=by omega
 have a2:i+20≤48:=by omega
 have a3:i+12≤48:=by omega
 refine Qe [(1,.lst 3 (prs l48) false),(3,.int .i64 ((i:Nat):Int))] ⟨f1,f3,trivial⟩  12 ?_
 refine yc ?_
 iterate 12 (try (refine Qa 4 ?_; simp -implicitDefEqProofs (disch:=omega) only [go_sem,↓reduceIte,rq,rL,Nat.reduceSub,Int.reduceToNat,Int.reduceLE,and_true,w3,w33,w20,h48,p20,s1,s2]))
 refine Qv hT XP (K.sets _ _ _ _) (by simp [Qb,Qd]) 40 ?_
 simp -implicitDefEqProofs (disch:=omega) only [go_sem,↓reduceIte,rA,rq,Int.reduceEq,and_true,not_false_eq_true,u0]
 refine Qv hT Xe (K.fresh _ _ (sub64 QFV _ _) (vars:=3) (slots:=((i:Nat):Int)) (by omega) (by omega)) (by simp [Qb,Qd]) 40 ?_
 simp -implicitDefEqProofs (disch:=omega) only [go_sem,↓reduceIte,rA,rq,Int.reduceEq,and_true,not_false_eq_true,u0,w12,h48,s3,a3]
 refine Qv hT Xe (K.fresh _ _ (sub64 QFV _ _) (vars:=((i:Nat):Int)) (slots:=2) (by omega) (by omega)) (by simp [Qb,Qd]) 40 ?_
 simp -implicitDefEqProofs (disch:=omega) only [go_sem,↓reduceIte,rA,rq,rL,Int.reduceEq,and_true,not_false_eq_true,cA,nA,lC,lN,List.drop_nil,u0,w8,u8a,w3,u3a]
 refine Qv hT Zp (K.all [((i:Nat):Int) * 8,0,16,((i * 3:Nat):Int),24,8,8,40,200,((i:Nat):Int),64,72,80,16,0,255] _ ?_ (vars:=((i:Nat):Int)) (slots:=((i * 3:Nat):Int)) (by omega) (by omega)) (by simp [Qb,Qd]) 40 ?_
 ·intro b hb
  simp only [List.mem_cons,List.not_mem_nil,or_false] at hb
  omega
 refine ye ?_
 iterate 6 (try (refine Qa 4 ?_; simp -implicitDefEqProofs (disch:=omega) only [go_sem,↓reduceIte,reduceCtorEq,rA,rq,rL,rT,Nat.reduceSub,Nat.reduceMul,Int.reduceToNat,Int.reduceLE,Int.reduceLT,Int.reduceEq,Int.reduceNe,Nat.reduceBEq,Nat.reduceBNe,ZI,Qk,QH,Qh,X8,Qg8,false_implies,true_implies,true_and,and_true,not_true_eq_false,not_false_eq_true,Int.reduceBEq,aA,cA,nA,lA,lC,lN,List.getElem?_cons_zero,List.getElem?_cons_succ,List.getD_cons_zero,List.getD_cons_succ,List.set_cons_zero,List.set_cons_succ,tN,List.drop_nil,e2]))
 refine ⟨_,_,Shift.refl _ _ _ _,t,?_⟩
 exact yf
theorem QJo (hT:Qi P tab) (hi:i=16) (hJ:k1J i fr σ) :
 W P G 107 0 wU fr σ (Yv (fun _ _=>False) k1E):=by
 obtain ⟨t,f1,f3,rfl⟩:=hJ
 have hlt:¬ ((i:Nat):Int)<16:=by omega
 refine Qe [(1,.lst 3 (prs l48) false),(3,.int .i64 ((i:Nat):Int))] ⟨f1,f3,trivial⟩  12 ?_
 refine yc ?_
 try exact ⟨t,rfl,rfl⟩
theorem QJp (hT:Qi P tab) (hi:i=48) (hJ:k0J i fr σ) :
 W P G 107 0 wT fr σ (Yv (fun _ _=>False) k0E):=by
 obtain ⟨t,w,f1,f2,rfl⟩:=hJ
 have hlt:¬ ((i:Nat):Int)<48:=by omega
 have ht:l48.take i=l48:=List.take_of_length_le (by rw [Qp8]; omega)
 rw [ht]
 refine Qe [(1,.sl 0 w 0 3 i none),(2,.int .i64 ((i:Nat):Int))] ⟨f1,f2,trivial⟩  12 ?_
 refine yc ?_
 exact ⟨t,w,rfl,by rw [hi]; rfl,rfl⟩
def kl6:List Pr:=[⟨0,3,4⟩,⟨0,1,31⟩,⟨1,1,31⟩,⟨1,3,3⟩,⟨2,1,2⟩,⟨2,1,32⟩]
theorem Qqy (hT:Qi P tab) (K:KwL P G):Am.Pure P G YU [] fun u=>u=.bool true:=by
 refine fun t=>Xl 0 (zL _) (Q6 hT Qbw (by simp [Q7]) (Ql 8 ?_))
 have hN:=Am.Pure.args (.cons _ _ _ _ (.lst 0 3 [] [] true .nil (.inl rfl)) (.cons _ _ _ _ (.lst 0 3 [] [] true .nil (.inl rfl)) .nil)) (K.sets [] [] false false)
 refine ya ?_
 refine Q0 (n:=107) (Shift.own (s:=1) (z:=0) (sz:=3) (T:=64) (by first | rfl | simp -implicitDefEqProofs (disch:=omega) only [go_sem,↓reduceIte,reduceCtorEq,rA,rq,rL,rT,Nat.reduceSub,Nat.reduceMul,Int.reduceToNat,Int.reduceLE,Int.reduceLT,Int.reduceEq,Int.reduceNe,Nat.reduceBEq,Nat.reduceBNe]) (by decide)) ?_
 simp -implicitDefEqProofs (disch:=omega) only [go_sem,↓reduceIte,reduceCtorEq,H.push,nA,lN]
 refine Qa 6 ?_
 refine ya ?_
 refine Yb 48 k0J k0E ⟨t+1,t,?_⟩ (fun i hi fr σ hJ=>QBm hT hi hJ) (fun i hi fr σ hJ=>QJp hT hi hJ) (fun e fr σ hE=>?_)
 ·refine yh ?_
  try simp [fl]
 obtain ⟨t2,w,rfl,f1,rfl⟩:=hE
 refine Y3 [(1,.sl 0 w 0 3 48 none)] ⟨f1,trivial⟩ ?_
 refine Q0 (Shift.freeze (k:=0) (v:=w) (T:=64) (cs:=fl prC l48) (zL _) rfl (XX prC QgY _)) ?_
 have hz:=QgA (k:=0) (w:=w) l48
 rw [Qp8] at hz
 simp only [QF,QQ,hz,List.set_cons_zero,QD,Option.map_none]
 refine Q0 (Shift.drop (o':=[]) (t':=t2) (by simp [XC]) (lR _) (zL _)) ?_
 refine Qa 12 ?_
 refine ya ?_
 refine Yb 16 k1J k1E ⟨t2,?_⟩ (fun i hi fr σ hJ=>QBl hT K hi hJ) (fun i hi fr σ hJ=>QJo hT hi hJ) (fun e fr σ hE=>?_)
 ·refine yl ?_
  try rfl
 obtain ⟨t3,rfl,rfl⟩:=hE
 refine Y3 [] trivial ?_
 refine Qa 12 ?_
 refine ya ?_
 refine Qv hT XP hN (by simp [Qb,Qd]) 40 ?_
 simp -implicitDefEqProofs (disch:=omega) only [go_sem,↓reduceIte,rA,rq,rL,and_true,cA,nA,lC,lN,tN,List.drop_nil]
 refine Qv hT Xe (K.fresh kl6 _ ?_ (vars:=3) (slots:=0) (by omega) (by omega)) (by simp [Qb,Qd]) 40 ?_
 ·intro x hx
  simp only [kl6,List.mem_cons,List.not_mem_nil,or_false] at hx
  rcases hx with rfl | rfl | rfl | rfl | rfl | rfl <;> (unfold i64; simp only; omega)
 refine ya ?_
 have hW:Am.Pure P G QN [] fun u=>u=.bool true:=K.works
 refine Qv hT QB hW (by simp [Qb]) 40 ?_
 simp -implicitDefEqProofs (disch:=omega) only [go_sem,↓reduceIte,reduceCtorEq,rq,and_true,lN]
end
end Go.Proofs.YtfgccihafnjalaaGreatDoor
