/- The law ClauseKnown: texts, each byte another one. -/
import Derived.Test.YtingdebioipemaaGreatDoorJ13
open Nat renaming reduceEqDiff → rq, reduceAdd → rA, reduceLeDiff → rL, reduceLT → rT, zero_add → zA, le_refl → lR, zero_le → zL, add_zero → aZ
open List renaming length_cons → lC, length_nil → lN, take_succ_cons → tS, length_append → lAq, nil_append → nAq, cons_append → cAq, append_assoc → aA, take_nil → tN, take_zero → tZ, length_map → lM
open Bool renaming not_false → nFq, not_true → nT
namespace Go.Proofs.YtingdebioipemaaGreatDoor
open Go Go.Am Go.Cl
set_option maxRecDepth 100000
variable {G:Nat→Option V}
section
attribute [local go_sem] nFq nT cAq nAq lR Nat.mul_one zA zL and_true Xu decide_false decide_true false_implies Qt not_false_eq_true QkS QkR Qru Qrt Qrs Qrr true_and true_implies
theorem Qs7 (b:List UInt8):b.map QBg=Qg b:=rfl
theorem Qjd {o:List (Option Ob)} {k w T:Nat} {c:List UInt8} (h:o[k]?=some (some (.arr w T (Qg c)))):Seen o (.sl k w 0 1 c.length none) (.lst 1 (Qg c) false):=by
 have:=Seen.row (o:=o) k w 0 1 none T (Qg c) (Qg c) h (fun j u hj=>?_) (fun _=>rfl)
 ·rwa [Xu] at this
 ·have hj':=hj
  simp only [Qg,List.getElem?_map,Option.map_eq_some_iff] at hj
  obtain ⟨c,hc,rfl⟩:=hj
  refine ⟨rfl,fun i d hd=>?_⟩
  cases i with
  | zero =>
    simp [V.cells] at hd; subst hd
    refine ⟨?_,by simp [Qd]⟩
    rw [show 0+j * 1+0=j by omega]; exact hj'
  | succ i=>simp [V.cells] at hd
def kn7:List UInt8:=[48,32,49,45,10,112,51]
theorem kn7_at (m:Nat):∃ x:UInt8,kn7.getD (m % 7) 0=x∧(Qg kn7).getD (m % 7) .any=.int .u8 x.toNat :=
 ⟨_,rfl,by rw [Qa8 (s:=kn7) (show m % 7<kn7.length from Nat.mod_lt _ (by decide))]; rw [List.getD_eq_getElem?_getD,List.getElem?_eq_getElem (show m % 7<kn7.length from Nat.mod_lt _ (by decide))]; rfl⟩
abbrev knH (t0:Nat):List (Option Ob):=[some (.arr t0 24 [.int .i64 3,QhB kn0])]
abbrev knJ (t0:Nat) (B:List UInt8):Nat→Fr→H→Prop:=fun i fr σ=>∃ t,Qi fr 1=.ptr 0 t0 0∧Qi fr 2=.lst 1 (Qg B) false∧Qi fr 4=.int .i64 ((i:Nat):Int)∧σ=⟨t,knH t0⟩
abbrev knE (t0:Nat):AE→Fr→H→Prop:=fun e fr σ=>e=.ex 0∧∃ t,σ=⟨t,knH t0⟩
variable {σ:H} {fr:Fr} {B:List UInt8} {t0 i:Nat}
theorem Qt9 (hT:Qn Tryz.prog tab) (K:QmW G) (hB:B.length≤1000) (hi:i<B.length) (hJ:knJ t0 B i fr σ) :
 W Tryz.prog G 170 0 wd fr σ (ZB (fun fr σ=>∃ fr' σ',Shift G 170 0 fr σ fr' σ'∧knJ t0 B (i+1) fr' σ') (knE t0)):=by
 obtain ⟨t,f1,f2,f4,rfl⟩:=hJ
 have hlt:(i:Int)<(B.length:Int):=by omega
 have e1:=Yf B
 have e2:(∀ c,c∈Qg B→isByte c=true)=True:=eq_true (Yg _)
 have e3:=Zy B
 have e4:=YR hi (by omega)
 have hmod:(i:Int).tmod 7=((i % 7:Nat):Int):=by rw [Int.tmod_eq_emod_of_nonneg (by omega)]; omega
 have hm7:i % 7<7:=Nat.mod_lt _ (by decide)
 obtain ⟨x,_,hx⟩:=kn7_at i
 have hx:[V.int .u8 48,V.int .u8 32,V.int .u8 49,V.int .u8 45,V.int .u8 10,V.int .u8 112,V.int .u8 51].getD (i % 7) V.any=.int .u8 x.toNat:=hx
 refine Qh [(1,.ptr 0 t0 0),(2,.lst 1 (Qg B) false),(4,.int .i64 ((i:Nat):Int))] ⟨f1,f2,f4,trivial⟩  1000 ?_
 simp -implicitDefEqProofs (disch:=omega) only [go_sem,↓reduceIte,rq,hlt]
 simp only [evW]
 simp -implicitDefEqProofs (disch:=omega) only [go_sem,↓reduceIte,rq,Qfl,e1,e2,e3]
 simp only [evW]
 simp -implicitDefEqProofs (disch:=omega) only [go_sem,↓reduceIte,reduceCtorEq,rA,rq,rL,Int.reduceEq,Qs7,hmod,hm7,hx]
 have hB':List.take i (Qg B)++[V.int .u8 x.toNat]++List.drop (i+1) (Qg B)=Qg (B.take i++[x]++B.drop (i+1)):=by simp [Qg]
 have hl':(B.take i++[x]++B.drop (i+1)).length=B.length:=by simp; omega
 rw [hB']
 generalize B.take i++[x]++B.drop (i+1)=B' at hl' ⊢
 have hs:∀ o:List (Option Ob),o[1]?=some (some (.arr t 5 (Qg B')))→Seen o (.sl 1 t 0 1 B.length none) (.lst 1 (Qg B') false):=fun o ho=>by
  have:=Qjd (c:=B') ho
  rwa [hl'] at this
 have k1:=Qmy hT K 3 kn0 B' false (by decide) (by decide) (by omega)
 have k2:=Qmy hT K 3 kn0 (B.take i) false (by decide) (by decide) (by rw [List.length_take]; omega)
 have kn:Qd (tfm 3 kn0)=true:=by decide
 have kb:Qd (.lst 1 (Qg (B.take i)) false)=true:=by simp [Qd]
 refine Y8 hT Qy k1 (.cons _ _ _ _ (.same _ kn) (.cons _ _ _ _ (hs _ rfl) .nil)) rfl 1000 ?_
 simp -implicitDefEqProofs (disch:=omega) only [go_sem,↓reduceIte,reduceCtorEq,rA,rq,YM]
 refine Qj hT Qy k2 (by simp [Qb,kn,kb]) 1000 ?_
 simp -implicitDefEqProofs (disch:=omega) only [go_sem,↓reduceIte,rA,rq,e4]
 refine ⟨_,_,Shift.drop (o':=knH t0) (t':=t+1+1) (by simp [XJ]) (lR _) (zL _),t+1+1,?_⟩
 simp -implicitDefEqProofs (disch:=omega) only [go_sem,↓reduceIte,rq]
theorem QAI (hi:i=B.length) (hJ:knJ t0 B i fr σ) :
 W Tryz.prog G 170 0 wd fr σ (ZB (fun _ _=>False) (knE t0)):=by
 obtain ⟨t,f1,f2,f4,rfl⟩:=hJ
 refine Qh [(1,.ptr 0 t0 0),(2,.lst 1 (Qg B) false),(4,.int .i64 ((i:Nat):Int))] ⟨f1,f2,f4,trivial⟩  1000 ?_
 simp -implicitDefEqProofs (disch:=omega) only [go_sem,↓reduceIte,rq,hi,Int.lt_irrefl]
 exact ⟨rfl,t,rfl⟩
end
section
attribute [local go_sem] nFq nT cAq nAq lR zA zL and_true decide_false decide_true false_implies gt_iff_lt QkQ QkP Qhz Qhy Qhx Qhw Qhv QkO
abbrev kn2J (t0:Nat) (a:Int):Nat→Fr→H→Prop:=fun k fr σ=>∃ t b,b=(k:Int) - 3∧Qi fr 6=.int .i64 a∧Qi fr 7=.int .i64 b∧σ=⟨t,knH t0⟩
abbrev kn2E (t0:Nat) (a:Int):AE→Fr→H→Prop:=fun e fr σ=>e=.ex 4∧∃ t,Qi fr 6=.int .i64 a∧σ=⟨t,knH t0⟩
variable {σ:H} {fr:Fr} {a:Int} {t0 k:Nat}
theorem Qsr (hT:Qn Tryz.prog tab) (K:QmW G) (ha:bd a) (hk:k<7) (hJ:kn2J t0 a k fr σ) :
 W Tryz.prog G 170 0 we fr σ (ZB (fun fr σ=>∃ fr' σ',Shift G 170 0 fr σ fr' σ'∧kn2J t0 a (k+1) fr' σ') (kn2E t0 a)):=by
 obtain ⟨t,b,hb,f6,f7,rfl⟩:=hJ
 have hlt:b<4:=by omega
 have hbb:bd b:=by constructor <;> omega
 have e4:IntKind.i64.wrap (b+1)=b+1:=by rw [QcT (by omega)]
 have hna:=Qrv (0 - a)
 have hnb:=Qrv (0 - b)
 refine Qh [(6,.int .i64 a),(7,.int .i64 b)] ⟨f6,f7,trivial⟩  1000 ?_
 simp -implicitDefEqProofs (disch:=omega) only [go_sem,↓reduceIte,reduceCtorEq,rA,rq,rL,hlt]
 generalize IntKind.i64.wrap (0 - a)=c at *
 generalize IntKind.i64.wrap (0 - b)=d at *
 have h1:=kn_holds (d:=d) hT K ha hbb hna
 have h2:=QnU (a:=a) (b:=b) (c:=c) (d:=d) hT K [b] (by simp) (fun n hn=>by rcases List.mem_singleton.1 hn with rfl; exact hbb)
 have h3:=QnU (a:=a) (b:=b) (c:=c) (d:=d) hT K [a,b] (by simp) (fun n hn=>by rcases List.mem_cons.1 hn with rfl | hn; exact ha; rcases List.mem_singleton.1 hn with rfl; exact hbb)
 have h4:=Qt8 hT K 2 (knG a b c d) (by simp [knG]) (by simp [knG])
 have h5:=Qsp (c:=c) (d:=d) (x:=if 1<b then b else 1) hT K ha hbb (by split; exact hbb; constructor <;> omega)
 simp only [tfm,QhB,Qkv,QrL,knG,ints,iv,List.map_cons,List.map_nil] at h1 h2 h3 h4 h5
 refine Qj hT QF h1 (by simp [Qb,Qd]) 1000 ?_
 simp -implicitDefEqProofs (disch:=omega) only [go_sem,↓reduceIte,reduceCtorEq,rA,rq]
 refine Qj hT Xb h2 (by simp [Qb,Qd]) 1000 ?_
 simp -implicitDefEqProofs (disch:=omega) only [go_sem,↓reduceIte,reduceCtorEq,rA,rq,rL]
 refine Qj hT Xb h3 (by simp [Qb,Qd]) 1000 ?_
 simp -implicitDefEqProofs (disch:=omega) only [go_sem,↓reduceIte,reduceCtorEq,rA,rq]
 refine Qj hT Qy h4 (by simp [Qb,Qd]) 1000 ?_
 simp -implicitDefEqProofs (disch:=omega) only [go_sem,↓reduceIte,reduceCtorEq,rA,rq]
 refine Qj hT Yj h5 (by simp [Qb,Qd]) 1000 ?_
 simp -implicitDefEqProofs (disch:=omega) only [go_sem,↓reduceIte,rA,rq,e4]
 refine ⟨_,_,Shift.drop (o':=knH t0) (t':=t+1) (by simp [XJ]) (lR _) (zL _),t+1,b+1,by omega,?_⟩
 simp -implicitDefEqProofs (disch:=omega) only [go_sem,↓reduceIte,rq]
theorem Qub (hk:k=7) (hJ:kn2J t0 a k fr σ) :
 W Tryz.prog G 170 0 we fr σ (ZB (fun _ _=>False) (kn2E t0 a)):=by
 obtain ⟨t,b,hb,f6,f7,rfl⟩:=hJ
 have hlt:¬ b<4:=by omega
 refine Qh [(6,.int .i64 a),(7,.int .i64 b)] ⟨f6,f7,trivial⟩  1000 ?_
 simp -implicitDefEqProofs (disch:=omega) only [go_sem,↓reduceIte,rq,hlt]
 exact ⟨rfl,t,rfl,rfl⟩
abbrev kn1J (t0:Nat):Nat→Fr→H→Prop:=fun k fr σ=>∃ t a,a=(k:Int) - 3∧Qi fr 6=.int .i64 a∧σ=⟨t,knH t0⟩
abbrev kn1E (t0:Nat):AE→Fr→H→Prop:=fun e _ σ=>e=.ex 2∧∃ t,σ=⟨t,knH t0⟩
theorem Qss (hT:Qn Tryz.prog tab) (K:QmW G) (hk:k<7) (hJ:kn1J t0 k fr σ) :
 W Tryz.prog G 170 0 wg fr σ (ZB (fun fr σ=>∃ fr' σ',Shift G 170 0 fr σ fr' σ'∧kn1J t0 (k+1) fr' σ') (kn1E t0)):=by
 obtain ⟨t,a,ha,f6,rfl⟩:=hJ
 have hlt:a<4:=by omega
 have hab:bd a:=by constructor <;> omega
 have e4:IntKind.i64.wrap (a+1)=a+1:=by rw [QcT (by omega)]
 refine Qh [(6,.int .i64 a)] ⟨f6,trivial⟩  1000 ?_
 simp -implicitDefEqProofs (disch:=omega) only [go_sem,↓reduceIte,rq,hlt]
 refine Y7 7 (kn2J t0 a) (kn2E t0 a) ⟨t,-3,by omega,?_⟩ (fun m hm fr σ hJ=>Qsr hT K hab hm hJ) (fun m hm fr σ hJ=>Qub hm hJ) (fun e fr σ hE=>?_)
 ·simp -implicitDefEqProofs (disch:=omega) only [go_sem,↓reduceIte,rq]
 ·obtain ⟨rfl,t,f6,rfl⟩:=hE
  refine QO [(6,.int .i64 a)] ⟨f6,trivial⟩ 1000 ?_
  simp -implicitDefEqProofs (disch:=omega) only [go_sem,↓reduceIte,rq,e4]
  refine ⟨_,_,Shift.refl _ _ _ _,t,a+1,by omega,?_⟩
  simp -implicitDefEqProofs (disch:=omega) only [go_sem,↓reduceIte]
theorem Quc (hk:k=7) (hJ:kn1J t0 k fr σ) :
 W Tryz.prog G 170 0 wg fr σ (ZB (fun _ _=>False) (kn1E t0)):=by
 obtain ⟨t,a,ha,f6,rfl⟩:=hJ
 have hlt:¬ a<4:=by omega
 refine Qh [(6,.int .i64 a)] ⟨f6,trivial⟩  1000 ?_
 simp -implicitDefEqProofs (disch:=omega) only [go_sem,↓reduceIte,rq,hlt]
 exact ⟨rfl,t,rfl⟩
end
section
attribute [local go_sem] nFq nT cAq nAq lR Nat.succ_ne_zero zA zL and_true bne_self_eq_false false_implies Qt QU zq1_0 zq1_1 QkS QkR Qyf QkQ QkP Qhz Qhy Qhx Qhw Qhv zq1_2 QkO Qye Qyd Qyc zq1_3 zq1_4 zq1_5 Qru Qrt Qrs Qrr true_and
theorem QrV {o:List (Option Ob)} {k w T n:Nat} (h:o[k]?=some (some (.arr w T (List.replicate n (V.lst 0 [] true))))):Seen o (.sl k w 0 1 n none) (.lst 1 (List.replicate n (V.lst 0 [] true)) false):=by
 have:=Seen.row (o:=o) k w 0 1 none T _ (List.replicate n (V.lst 0 [] true)) h (fun j u hj=>?_) (fun _=>rfl)
 ·rwa [List.length_replicate] at this
 ·have hj':=hj
  obtain ⟨hlt,hu⟩:=List.getElem?_eq_some_iff.1 hj
  rw [List.getElem_replicate] at hu
  subst hu
  refine ⟨rfl,fun i d hd=>?_⟩
  cases i with
  | zero =>
    simp [V.cells] at hd; subst hd
    refine ⟨?_,rfl⟩
    rw [show 0+j * 1+0=j by omega]; exact hj'
  | succ i=>simp [V.cells] at hd
def knT:List UInt8:=[112,32,99,110,102,32,48,32,48,10]
theorem Qko (hT:Qn Tryz.prog tab) (K:QmW G):Am.Pure Tryz.prog G YD [] fun u=>u=.bool true:=by
 have hW:=Qig (G:=G) hT K.buf K.ito
 obtain ⟨B,hB,hP⟩:=kn_put (G:=G) hT K
 have h0:=Qmy hT K 3 kn0 B false (by decide) (by decide) (by omega)
 have n0:Qb [tfm 3 kn0]=true:=by decide
 have n1:Qb [tfm 3 kn0,.lst 1 (Qg B) false]=true:=by simp [Qb,Qd,kn0,QhB,Qkv,ints]
 intro t
 refine Xa 0 (zL _) (QM hT QaB (by simp [QU]) (Qx 1000 ?_))
 have hk:QhB kn0=.lst 1 [.lst 1 [iv 1] true,.lst 1 [iv (-1),iv 2] true,.lst 1 [iv (-2),iv 3,iv 3] true,.lst 1 [] true,.lst 1 [iv 2,iv (-2)] true] true:=rfl
 simp only [tfm,hk] at h0 hP n0 n1
 simp -implicitDefEqProofs (disch:=omega) only [go_sem,↓reduceIte,reduceCtorEq,rA,rq,rL]
 refine Qj hT XP hP n0 1000 ?_
 simp -implicitDefEqProofs (disch:=omega) only [go_sem,↓reduceIte,reduceCtorEq,rA,rq,rT]
 refine Qj hT Qy h0 n1 1000 ?_
 simp -implicitDefEqProofs (disch:=omega) only [go_sem,↓reduceIte,reduceCtorEq,rA,rq]
 refine Y7 B.length (knJ t B) (knE t) ⟨t+1,?_⟩ (fun i hi fr σ hJ=>Qt9 hT K hB hi hJ) (fun i hi fr σ hJ=>QAI hi hJ) (fun e fr σ hE=>?_)
 ·simp -implicitDefEqProofs (disch:=omega) only [go_sem,↓reduceIte,reduceCtorEq,rq,knH,hk]
  rfl
 obtain ⟨rfl,t1,rfl⟩:=hE
 refine QO [] trivial 1000 ?_
 simp -implicitDefEqProofs (disch:=omega) only [go_sem,↓reduceIte]
 refine Y7 7 (kn1J t) (kn1E t) ⟨t1,-3,by omega,?_⟩ (fun i hi fr σ hJ=>Qss hT K hi hJ) (fun i hi fr σ hJ=>Quc hi hJ) (fun e fr σ hE=>?_)
 ·simp -implicitDefEqProofs (disch:=omega) only [go_sem,↓reduceIte]
 obtain ⟨rfl,t2,rfl⟩:=hE
 refine QO [] trivial 1000 ?_
 have hlow:bd (-9223372036854775808):=by decide
 have g1:=kn_h1 hT K (-9223372036854775808) hlow
 have g2:=kn_h2 hT K 16777217 (-9223372036854775808) hlow
 have g3:=kn_h2 hT K (-1) 0 (by decide)
 have g4:=kn_u1 hT K (-9223372036854775808) hlow
 have g5:=Qt7 hT K knT false (by decide)
 simp only [tfm,nfm,QhB,Qkv,ints,iv,List.map_cons,List.map_nil] at g1 g2 g3 g4 g5
 simp -implicitDefEqProofs (disch:=omega) only [go_sem,↓reduceIte,reduceCtorEq,rA,rq,rL]
 refine Qj hT QF g1 (by simp [Qb,Qd]) 1000 ?_
 simp -implicitDefEqProofs (disch:=omega) only [go_sem,↓reduceIte,rA,rq,rL]
 refine Qj hT QF g2 (by simp [Qb,Qd]) 1000 ?_
 simp -implicitDefEqProofs (disch:=omega) only [go_sem,↓reduceIte,rA,rq,rL]
 refine Qj hT QF g3 (by simp [Qb,Qd]) 1000 ?_
 simp -implicitDefEqProofs (disch:=omega) only [go_sem,↓reduceIte,rA,rq,rL]
 refine Qj hT Xb g4 (by simp [Qb,Qd]) 1000 ?_
 simp -implicitDefEqProofs (disch:=omega) only [go_sem,↓reduceIte,rA,rq,rL]
 generalize hN:(1048577:Int)=N
 refine Y8 hT Qy g5 (.cons _ _ _ _ (.same _ rfl) (.cons _ _ _ _ (Qjd (c:=knT) rfl) .nil)) rfl 1000 ?_
 simp -implicitDefEqProofs (disch:=omega) only [go_sem,↓reduceIte,rA,rq]
 have hfl:(List.replicate N.toNat [V.lst 0 [] true]).flatten=List.replicate N.toNat (V.lst 0 [] true):=List.flatten_replicate_singleton
 rw [hfl]
 refine Y8 hT QN (Qua hT N.toNat (by omega) (by omega)) (.cons _ _ _ _ (.agg _ _ (.cons _ _ _ _ (.same _ rfl) (.cons _ _ _ _ (QrV rfl) .nil))) .nil) rfl 1000 ?_
 simp -implicitDefEqProofs (disch:=omega) only [go_sem,↓reduceIte,rA,rq]
 refine Qj hT Qm hW rfl 1000 ?_
 simp -implicitDefEqProofs (disch:=omega) only [go_sem,↓reduceIte,reduceCtorEq,rA,rq]
end
end Go.Proofs.YtingdebioipemaaGreatDoor
