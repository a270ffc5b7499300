/- Ours. -/
import Derived.Test.YtbdhjeojcpgblaaGreatDoorJ16
import Derived.Test.YtbdhjeojcpgblaaGreatDoorY
open Nat renaming reduceEqDiff → rq, reduceAdd → rA, reduceLeDiff → rL, reduceLT → rT, zero_add → zA, le_refl → lR, zero_le → zL, add_zero → aZ
open List renaming length_cons → lC, length_nil → lN, take_succ_cons → tSq, length_append → lA, nil_append → nA, cons_append → cA, append_assoc → aA, take_nil → tN, take_zero → tZ, length_map → lM
open Bool renaming not_false → nF, not_true → nT
namespace Go.Proofs.YtbdhjeojcpgblaaGreatDoor
open Go Go.Am Go.Rv Go.Rg
set_option maxRecDepth 100000
variable {P:Program} {G:Nat→Option V}
set_option maxHeartbeats 4000000
section
attribute [local go_sem] nF nT aA cA lC lN nA tZ aZ lR Nat.mul_one zA zL and_true bne_self_eq_false decide_false decide_true QiR Qu Qkq Qkp Qko Qkn Qkm Qkl true_and true_implies
section
variable {fmt:Int→List UInt8} {v0 v1 v2 v3 v4:Nat} {L:List Nd} {zs:List (Option Ob)} {y0 y1 y2 y3 y4 y5 y6 y7 y8 x:Option Ob}
theorem kb_10:(kG fmt v0 v1 v2 v3 v4 L++y0::y1::y2::y3::y4::y5::zs)[10]?=some y5:=rfl
theorem QCu:(kG fmt v0 v1 v2 v3 v4 L++y0::y1::y2::y3::y4::y5::y6::zs)[11]?=some y6:=rfl
theorem QSg:(kG fmt v0 v1 v2 v3 v4 L++y0::y1::y2::y3::y4::y5::y6::y7::zs)[12]?=some y7:=rfl
theorem kb_13:(kG fmt v0 v1 v2 v3 v4 L++y0::y1::y2::y3::y4::y5::y6::y7::y8::zs)[13]?=some y8:=rfl
theorem QCt:(kG fmt v0 v1 v2 v3 v4 L++y0::y1::y2::y3::y4::y5::y6::zs).set 11 x=kG fmt v0 v1 v2 v3 v4 L++y0::y1::y2::y3::y4::y5::x::zs:=rfl
theorem QPR:(kG fmt v0 v1 v2 v3 v4 L++y0::y1::y2::y3::y4::y5::y6::y7::zs).set 12 x=kG fmt v0 v1 v2 v3 v4 L++y0::y1::y2::y3::y4::y5::y6::x::zs:=rfl
theorem QPQ:(kG fmt v0 v1 v2 v3 v4 L++y0::y1::y2::y3::y4::y5::y6::y7::y8::zs).set 13 x=kG fmt v0 v1 v2 v3 v4 L++y0::y1::y2::y3::y4::y5::y6::y7::x::zs:=rfl
end
theorem Qup (o z:List (Option Ob)):XT o (o++z):=by
 have:=Z7 o.length (o++z)
 rwa [List.take_left'] at this
 rfl
def lbX (X Y:Option Ob) (w:Nat) (L:List Nd) (b:Int) (N:Nat):List (Option Ob):=[none,none,none,none,none,X,Y,some (.arr w 36 (Xg (QQn L b N)))]
abbrev lbJ (fmt:Int→List UInt8) (params next:Int) (fv:V) (n v0 v1 v2 v3 v4:Nat) (bh b:Int) (X Y:Option Ob) (w N:Nat) (L:List Nd):Nat→Fr→H→Prop:=fun i fr σ=>∃ t,Ql fr 1=.int .i64 params∧Ql fr 2=.int .i64 next∧Ql fr 7=fv∧Ql fr 9=.int .i64 ((n:Nat):Int)∧Ql fr 10=.ptr 1 v0 0∧Ql fr 12=.int .i64 bh∧Ql fr 13=.int .i64 (b+((i:Nat):Int))∧Ql fr 16=.sl 12 w 0 1 N none∧Ql fr 17=.int .i64 ((i:Nat):Int)∧σ=⟨t,kG fmt v0 v1 v2 v3 v4 L++lbX X Y w L b N⟩
abbrev lbE (fmt:Int→List UInt8) (params next:Int) (fv:V) (n v0 v1 v2 v3 v4:Nat) (bh b:Int) (X Y:Option Ob) (w N:Nat) (L:List Nd):AE→Fr→H→Prop:=fun e fr σ=>∃ t,e=.ex 2∧Ql fr 1=.int .i64 params∧Ql fr 2=.int .i64 next∧Ql fr 7=fv∧Ql fr 9=.int .i64 ((n:Nat):Int)∧Ql fr 10=.ptr 1 v0 0∧Ql fr 12=.int .i64 bh∧Ql fr 13=.int .i64 (b+((N:Nat):Int))∧σ=⟨t,kG fmt v0 v1 v2 v3 v4 L++lbX X Y w L b N⟩
variable {σ:H} {fr:Fr} {X Y:Option Ob} {n w N i:Nat} {fv:V} {params bh b:Int}
theorem QFa (hT:Qf P tab) {fmt:Int→List UInt8} {next:Int} {v0 v1 v2 v3 v4:Nat} {L:List Nd} (hb:0≤b∧b≤1099511627776) (hN:N≤3000) (hH:∀ j:Nat,j<N→Hs L (sy (b+((j:Nat):Int)))) (hi:i<N) 
 (hJ:lbJ fmt params next fv n v0 v1 v2 v3 v4 bh b X Y w N L i fr σ) :
 W P G 151 0 wa fr σ (QgX (fun fr σ=>∃ fr' σ',Shift G 151 0 fr σ fr' σ'∧lbJ fmt params next fv n v0 v1 v2 v3 v4 bh b X Y w N L (i+1) fr' σ') (lbE fmt params next fv n v0 v1 v2 v3 v4 bh b X Y w N L)):=by
 obtain ⟨t,f1,f2,f7,f9,f10,f12,f13,f16,f17,rfl⟩:=hJ
 have hlt:((i:Nat):Int)<((N:Nat):Int):=by omega
 have e2:IntKind.i64.wrap (((i:Nat):Int)+1)=((i+1:Nat):Int):=Qe9 (n:=4000) (by omega) (by omega)
 have e3:IntKind.i64.wrap (b+((i:Nat):Int)+1)=b+((i+1:Nat):Int):=by rw [Yz (by omega)]; omega
 obtain ⟨h1,h2⟩:=QCL (hH i hi)
 have hlen:((Qnm L (sy (b+((i:Nat):Int)))).toNat)<L.length:=(List.getElem?_eq_some_iff.1 h2).1
 have hin:0≤Qnm L (sy (b+((i:Nat):Int)))∧Qnm L (sy (b+((i:Nat):Int)))<L.length:=⟨h1,by omega⟩
 have hnd:L.getD (Qnm L (sy (b+((i:Nat):Int)))).toNat zeroNd=sy (b+((i:Nat):Int)):=by rw [List.getD_eq_getElem?_getD,h2]; rfl
 have hg:(Xg (QQn L b N)).getD i V.any=.int .i64 (Qnm L (sy (b+((i:Nat):Int)))):=by
  refine QmV ?_
  unfold QQn
  rw [List.getElem?_map,List.getElem?_range hi]
  rfl
 have hal:(Xg (QQn L b N)).length=N:=by rw [Xl,QGg]
 simp only [lbX]
 refine Qt [(1,.int .i64 params),(2,.int .i64 next),(7,fv),(9,.int .i64 ((n:Nat):Int)),(10,.ptr 1 v0 0),(12,.int .i64 bh),(13,.int .i64 (b+((i:Nat):Int))),(16,.sl 12 w 0 1 N none),(17,.int .i64 ((i:Nat):Int))] ⟨f1,f2,f7,f9,f10,f12,f13,f16,f17,trivial⟩  1000 ?_
 simp -implicitDefEqProofs (disch:=omega) only [go_sem,↓reduceIte,rq,QSg,hlt,hg,hal,hi]
 refine call hT QF (Qgn hT) 1000 fun v σ hv=>?_
 obtain ⟨rfl,t1,ht1,rfl⟩:=hv
 rw [if_pos hin,hnd]
 simp -implicitDefEqProofs (disch:=omega) only [go_sem,↓reduceIte,rA,rq,rL,rT,kb_13,QPQ,Nd.cells,sy,e2,e3]
 refine ⟨_,_,Shift.drop (o':=kG fmt v0 v1 v2 v3 v4 L++lbX X Y w L b N) (t':=t1+1) ?_ (lR _) (zL _),t1+1,?_⟩
 ·have:=Qup (kG fmt v0 v1 v2 v3 v4 L++lbX X Y w L b N) [some (.arr t1 51 [.int .u8 2,.int .i64 (b+((i:Nat):Int)),.int .i64 0,.int .u8 0,.int .i64 0,.int .i64 0])]
  simpa only [lbX,aA,cA,nA] using this
 ·repeat' (first | exact rfl | refine ⟨rfl,?_⟩)
theorem QSe (hT:Qf P tab) {fmt:Int→List UInt8} {next:Int} {v0 v1 v2 v3 v4:Nat} {L:List Nd} (hi:i=N) 
 (hJ:lbJ fmt params next fv n v0 v1 v2 v3 v4 bh b X Y w N L i fr σ) :
 W P G 151 0 wa fr σ (QgX (fun _ _=>False) (lbE fmt params next fv n v0 v1 v2 v3 v4 bh b X Y w N L)):=by
 obtain ⟨t,f1,f2,f7,f9,f10,f12,f13,f16,f17,rfl⟩:=hJ
 subst hi
 refine Qt [(1,.int .i64 params),(2,.int .i64 next),(7,fv),(9,.int .i64 ((n:Nat):Int)),(10,.ptr 1 v0 0),(12,.int .i64 bh),(13,.int .i64 (b+((i:Nat):Int))),(16,.sl 12 w 0 1 i none),(17,.int .i64 ((i:Nat):Int))] ⟨f1,f2,f7,f9,f10,f12,f13,f16,f17,trivial⟩ 12 ?_
 simp -implicitDefEqProofs (disch:=omega) only [go_sem,↓reduceIte,rq,Int.lt_irrefl]
 refine ⟨t,rfl,?_⟩
 repeat' (first | exact rfl | refine ⟨rfl,?_⟩)
end
section
attribute [local go_sem] nF nT aZ lR Nat.mul_one Nat.one_mul Nat.succ_ne_zero zA zL Nat.zero_mul Option.getD_none Option.getD_some Option.isSome_none Option.isSome_some beq_self_eq_true bne_self_eq_false decide_false decide_true ge_iff_le gt_iff_lt Qu QY QQ9 QQ8 Qrg Qrf Qre Qrd Qrc Qrb Qra Qq9 Qq8 Qkq QQ7 Qkp Qko Qkn Qkm Qkl Qq7 Qq6 Qq5 QBb QQ6 QQ5 QBa QA9 QA8 QA7 QA6
abbrev lfJ (params next:Int) (r:List Rg.Fn):Nat→Fr→H→Prop:=fun n fr σ=>∃ t,Ql fr 1=.int .i64 params∧Ql fr 2=.int .i64 next∧Ql fr 7=Qej r∧Ql fr 9=.int .i64 ((n:Nat):Int)∧σ=⟨t,[]⟩
abbrev lfE:AE→Fr→H→Prop:=fun e _ σ=>e=.ex 0∧∃ t,σ=⟨t,[]⟩
variable {sure:Bool} {sl:V} {b:Int}
theorem stC_33 {L:List Nd}:(stC L b 32 sl sure).getD 33 V.any=.bool sure:=by
 unfold stC
 rw [List.getD_eq_getElem?_getD,List.getElem?_append_right (by rw [QW]; omega),QW]
 rfl
theorem QpB {L:List Nd} {k:Nat} (hk:k<32):(stC L b 32 sl sure).getD k V.any=.int .i64 (Ql4 L b k):=by
 unfold stC
 rw [List.getD_eq_getElem?_getD,List.getElem?_append_left (by rw [QW]; omega)]
 unfold Qfb
 rw [List.getElem?_map,List.getElem?_range hk]
 simp [hk]
theorem QE8 (hT:Qf P tab) (F:Fmt P G) {params next:Int} {r:List Rg.Fn} (hn:next≤1099511627776) (hrl:r.length≤1000) {n:Nat} {f:Rg.Fn} (hf:r[n]?=some f) (hfr:0≤f.frame∧f.frame≤1984) {fr:Fr} {σ:H} (hJ:lfJ params next r n fr σ) :
 W P G 151 0 we fr σ (QgX (fun fr σ=>∃ fr' σ',Shift G 151 0 fr σ fr' σ'∧lfJ params next r (n+1) fr' σ') lfE):=by
 obtain ⟨t,f1,f2,f7,f9,rfl⟩:=hJ
 have hlt:=(List.getElem?_eq_some_iff.1 hf).1
 have hlt':((n:Nat):Int)<((r.length:Nat):Int):=by omega
 have e2:IntKind.i64.wrap (((n:Nat):Int)+1)=((n+1:Nat):Int):=Qe9 (n:=4000) (by omega) (by omega)
 have hD:(r.map fun f=>V.agg (fC f)).getD n V.any=.agg (fC f):=by simp [List.getD_eq_getElem?_getD,hf]
 obtain ⟨b,hb⟩:∃ b,b=max 0 next:=⟨_,rfl⟩
 obtain ⟨cnt,hcnt⟩:∃ cnt,cnt=Qya f.frame params:=⟨_,rfl⟩
 have hc20:cnt≤2000:=by rw [hcnt]; unfold Qya; omega
 simp only [Qej] at f7
 refine Qt [(1,.int .i64 params),(2,.int .i64 next),(7,Qej r),(9,.int .i64 ((n:Nat):Int))] ⟨f1,f2,f7,f9,trivial⟩  24 ?_
 simp -implicitDefEqProofs (disch:=omega) only [go_sem,↓reduceIte,rq,Qej,hlt',lM]
 refine call hT Qjq (k_New hT F.fmt) 30 fun v σ hv=>?_
 obtain ⟨v0,v1,v2,v3,v4,t1,ht1,rfl,rfl⟩:=hv
 have hfC:(fC f).length=5:=rfl
 have hfO:ones (fC f)=True:=eq_true fun u hu=>by
  simp only [fC,fnC,Y9,Xv,List.mem_cons,List.not_mem_nil,or_false] at hu
  rcases hu with rfl | rfl | rfl | rfl | rfl <;> rfl
 have hfT:(fC f).take 5=fC f:=rfl
 simp -implicitDefEqProofs (disch:=omega) only [go_sem,↓reduceIte,reduceCtorEq,rq,false_implies,and_true,hD,lM,List.append_nil,V.cells,hfC,hfT]
 refine call hT QfM (QDA hT F f.name f.pl f.code f.frame f.cuts (by omega) params next hn (by simp)) 1 fun v σ hv=>?_
 obtain ⟨L,t2,w2,w3,w4,ws,hL,hE,hLl,hA,hS,rfl,rfl⟩:=hv
 rw [← hb] at hL hA hS ⊢
 rw [← hcnt] at hL hLl hS ⊢
 have hsl:=QhC L b 32 (.sl 10 ws 0 1 cnt none) (decide (f.frame=0))
 have htk:List.take 34 (stC L b 32 (.sl 10 ws 0 1 cnt none) (decide (f.frame=0)))=stC L b 32 (.sl 10 ws 0 1 cnt none) (decide (f.frame=0)):=List.take_of_length_le (by omega)
 have hon:ones (stC L b 32 (.sl 10 ws 0 1 cnt none) (decide (f.frame=0)))=True:=eq_true (by
  unfold stC Qfb
  intro c hc
  simp only [List.mem_append,List.mem_map,List.mem_cons,List.not_mem_nil,or_false] at hc
  rcases hc with ⟨r,_,rfl⟩ | rfl | rfl <;> rfl)
 have g0:=QpB (L:=L) (b:=b) (sl:=.sl 10 ws 0 1 cnt none) (sure:=decide (f.frame=0)) (k:=0) (by omega)
 have g1:=QpB (L:=L) (b:=b) (sl:=.sl 10 ws 0 1 cnt none) (sure:=decide (f.frame=0)) (k:=1) (by omega)
 have g2:=QpB (L:=L) (b:=b) (sl:=.sl 10 ws 0 1 cnt none) (sure:=decide (f.frame=0)) (k:=2) (by omega)
 have g32:=QBE (L:=L) (b:=b) (sl:=.sl 10 ws 0 1 cnt none) (sure:=decide (f.frame=0))
 have g33:=stC_33 (L:=L) (b:=b) (sl:=.sl 10 ws 0 1 cnt none) (sure:=decide (f.frame=0))
 have r2:Ql4 L b 2=-1:=rfl
 have hall:=QDR L b cnt (.sl 10 ws 0 1 cnt none) (decide (f.frame=0))
 obtain ⟨sc,hsc⟩:∃ sc,sc=stC L b 32 (.sl 10 ws 0 1 cnt none) (decide (f.frame=0)):=⟨_,rfl⟩
 rw [← hsc] at hsl htk hon g0 g1 g2 g32 g33 hall ⊢
 refine ya ?_
 iterate 4 (try (refine Qa 2 ?_; simp -implicitDefEqProofs (disch:=omega) only [go_sem,↓reduceIte,rA,rq,rT,QiR,QCu,QCt,tZ,lC,lN,cA,nA,aA,and_true,hsl,hon,List.append_nil]))
 have hmax:(if next > 0 then next else (0:Int))=b:=by rw [hb]; split <;> omega
 have hmin:(if (6:Int)<params then (6:Int) else params)=min params 6:=by split <;> omega
 have hmx:(if (0:Int)<min params 6 then min params 6 else 0)=max 0 (min params 6):=by split <;> omega
 have hq:IntKind.i64.wrap (Int.tdiv f.frame 8)=f.frame / 8:=by rw [Int.tdiv_eq_ediv_of_nonneg hfr.1,Yz (by omega)]
 have hsum:IntKind.i64.wrap (f.frame / 8+max 0 (min params 6))=((cnt:Nat):Int):=by rw [Yz (by omega),hcnt]; unfold Qya; omega
 have hfr':(f.frame==0)=decide (f.frame=0):=by rw [Bool.eq_iff_iff,beq_iff_eq,decide_eq_true_eq]
 have hf3:(fC f).getD 3 V.any=.int .i64 f.frame:=rfl
 iterate 12 (try (refine Qa 4 ?_; simp -implicitDefEqProofs (disch:=omega) only [go_sem,↓reduceIte,rA,rq,rL,Int.reduceToNat,Int.reduceLE,Int.reduceEq,QCu,true_implies,and_true,not_false_eq_true,hsl,hmax,hmin,hmx,hq,hsum,hfr',hf3,hD,V.cells,hfC,lM,g32,g33,g2,g0,r2]))
 have h0:=hA 0 (by omega) (by omega)
 have hn0:Qjw L (Ql4 L b 0)=.tup [.int .i64 0,.bool true]:=by
  obtain ⟨k1,k2⟩:=QCL h0
  have e:Ql4 L b 0=Qnm L (QrH b 0):=rfl
  have hin:inG L (Ql4 L b 0):=by
   rw [e]; exact ⟨k1,by have:=(List.getElem?_eq_some_iff.1 k2).1; omega⟩
  have hnd:nd L (Ql4 L b 0)=co 0:=by rw [e]; unfold nd; rw [List.getD_eq_getElem?_getD,k2]; rfl
  rw [Qjw,Qjg,if_pos ⟨hin,by rw [hnd]; rfl⟩,hnd]
  rfl
 refine call hT YD (QgQ hT (zL _)) 22 fun v σ hv=>?_
 obtain ⟨rfl,t3,ht3,rfl⟩:=hv
 rw [hn0]
 simp -implicitDefEqProofs (disch:=omega) only [go_sem,↓reduceIte,rA,rq,rT,lC,lN]
 refine Xr (n:=151) (Shift.own (s:=16) (z:=0) (sz:=1) (T:=36) (by first | rfl | simp -implicitDefEqProofs (disch:=omega) only [go_sem,↓reduceIte,reduceCtorEq,rA,rq,rL,rT,Nat.reduceSub,Nat.reduceMul,Int.reduceToNat,Int.reduceLE,Int.reduceLT,Int.reduceEq,Int.reduceNe,Nat.reduceBEq,Nat.reduceBNe]) (by decide)) ?_
 simp -implicitDefEqProofs (disch:=omega) only [go_sem,↓reduceIte,rA,rq,H.push,QiR,lC,lN,cA,nA,aA]
 have hd29:(List.take 29 (List.drop 3 sc)).length=29:=by rw [List.length_take,List.length_drop,hsl]; rfl
 have htc:List.take cnt (Y7 L b cnt)=Y7 L b cnt:=List.take_of_length_le (by rw [QgL]; omega)
 have z1:(30+cnt) * 8≤140737488355328:=by omega
 have z2:30+cnt≤9223372036854775807:=by omega
 refine Qa 60 ?_
 simp -implicitDefEqProofs (disch:=omega) only [go_sem,↓reduceIte,reduceCtorEq,rA,rq,rL,Nat.reduceSub,Nat.reduceMul,Int.reduceToNat,Int.reduceLE,kb_10,QCu,QSg,QPR,tZ,lC,lN,cA,nA,true_implies,and_true,hsl,g1,g32,QgL,hd29,htc,z1,z2,hall]
 have hH:∀ j:Nat,j<30+cnt→Hs L (sy (b+((j:Nat):Int))):=fun j hj=>by
  by_cases h1:j=0
  ·subst h1; exact hA 1 (by omega) (by omega)
  ·by_cases h2:j<30
   ·have:=hA (j+2) (by omega) (by omega)
    unfold QrH at this
    rw [if_neg (by omega),if_neg (by omega)] at this
    rwa [show b+((j+2:Nat) - 2:Int)=b+((j:Nat):Int) by omega] at this
   ·have:=hS (j - 30) (by omega)
    rwa [show b+30+((j - 30:Nat):Int)=b+((j:Nat):Int) by omega] at this
 have hbh:b+((30+cnt:Nat):Int)=b+30+((cnt:Nat):Int):=by omega
 refine QpE (30+cnt) (lbJ F.fmt params next (Qej r) n v0 v1 w2 w3 w4 (b+30+((cnt:Nat):Int)) b (some (.arr ws 36 (Y7 L b cnt))) (some (.arr t2 40 sc)) (t3+1+1+1) (30+cnt) L) (lbE F.fmt params next (Qej r) n v0 v1 w2 w3 w4 (b+30+((cnt:Nat):Int)) b (some (.arr ws 36 (Y7 L b cnt))) (some (.arr t2 40 sc)) (t3+1+1+1) (30+cnt) L) ⟨t3+1+1+1+1,?_⟩ (fun i hi fr σ hJ=>QFa hT (by omega) (by omega) hH hi hJ) (fun i hi fr σ hJ=>QSe hT hi hJ) (fun e fr σ hE=>?_)
 ·rw [show b+((0:Nat):Int)=b by omega]
  repeat' (first | exact rfl | refine ⟨rfl,?_⟩)
 obtain ⟨t4,rfl,hh⟩:=hE
 rw [hbh] at hh
 obtain ⟨f1,f2,f7,f9,f10,f12,f13,rfl⟩:=hh
 refine Qcd [(1,.int .i64 params),(2,.int .i64 next),(7,Qej r),(9,.int .i64 ((n:Nat):Int)),(10,.ptr 1 v0 0),(12,.int .i64 (b+30+((cnt:Nat):Int))),(13,.int .i64 (b+30+((cnt:Nat):Int)))] ⟨f1,f2,f7,f9,f10,f12,f13,trivial⟩ 20 ?_
 simp -implicitDefEqProofs (disch:=omega) only [go_sem,↓reduceIte,rq,e2]
 iterate 4 (try (refine Qa 4 ?_; simp -implicitDefEqProofs (disch:=omega) only [go_sem,↓reduceIte,reduceCtorEq,rA,rq,rL,rT,Nat.reduceSub,Nat.reduceMul,Int.reduceToNat,Int.reduceLE,Int.reduceLT,Int.reduceEq,Int.reduceNe,Nat.reduceBEq,Nat.reduceBNe,QEb,QiR,kb_10,QCu,QSg,kb_13,QCt,QPR,QPQ,QCB,tSq,tZ,tN,List.set_cons_zero,List.set_cons_succ,lC,lN,cA,nA,aA,false_implies,true_implies,true_and,and_true,not_true_eq_false,not_false_eq_true,e2]))
 refine ⟨_,_,Shift.drop (o':=[]) (t':=t4) (by simp [XT]) (lR _) (zL _),t4,?_⟩
 repeat' (first | exact rfl | refine ⟨rfl,?_⟩)
end
end Go.Proofs.YtbdhjeojcpgblaaGreatDoor
namespace Go.Proofs.YtbdhjeojcpgblaaGreatDoor
open Go Go.Am Go.Rv Go.Rg
set_option maxRecDepth 100000
set_option maxHeartbeats 4000000
section
attribute [local go_sem] nF nT cA lC lM lN nA List.set_cons_succ List.set_cons_zero tN tSq tZ lR zA zL V.cells and_true bne_self_eq_false decide_false decide_true false_implies gt_iff_lt QY QQ9 QQ8 Qrg Qrf Qre Qrd Qrc Qrb Qra Qq9 Qq8 Qkq QQ7 Qkp Qko Qkn Qkm Qkl Qq7 Qq6 Qq5 QBb QQ6 QQ5 QBa QA9 QA8 QA7 QA6 true_and true_implies
theorem QSd {P:Program} {G:Nat→Option V} {params next:Int} {r:List Rg.Fn} {n:Nat} (hn:n=r.length) {fr:Fr} {σ:H} (hJ:lfJ params next r n fr σ) :
 W P G 151 0 we fr σ (QgX (fun _ _=>False) lfE):=by
 obtain ⟨t,f1,f2,f7,f9,rfl⟩:=hJ
 simp only [Qej] at f7
 refine Qt [(1,.int .i64 params),(2,.int .i64 next),(7,Qej r),(9,.int .i64 ((n:Nat):Int))] ⟨f1,f2,f7,f9,trivial⟩  12 ?_
 simp -implicitDefEqProofs (disch:=omega) only [go_sem,↓reduceIte,rq,Qej,hn,Int.lt_irrefl]
 exact ⟨rfl,t,rfl⟩
theorem Qvv (hT:Qf Tryz.prog tab) (F:Fmt Tryz.prog G0) (hW:Am.Pure Tryz.prog G0 Q9 [] fun v=>v=.bool true) (m:Im) (hn:∀ s∈m.syms,s.1.length≤9223372036854775807) (hw:∀ w∈m.code,0≤w∧w<4294967296) (params next:Int) :
 Am.Pure Tryz.prog G0 ZF [QhI m,.int .i64 params,.int .i64 next] fun v=>v=.bool true:=by
 have hO:=c_rOf hT m hn hw
 have hF:=c_few (G:=G0) hT m
 have hnl:Qb [QhI m]=true:=by simp [Qb,Qd,QhI,QjP]
 simp only [QhI,QbF,Xe,Xs] at hO hF hnl ⊢
 refine fun t=>Qi 0 (zL _) (Qk hT Qc2 (by simp [QY]) (Qg 14 ?_))
 refine ya ?_
 refine Qj hT QfJ hO hnl 30 ?_
 cases hof:ofS m with
 | inr e =>
   have hne:e.2.2≠0:=by
    obtain ⟨n,i,er⟩:=e
    unfold ofS at hof
    split at hof
    ·exact Qju hof
    ·cases hof; decide
   have hne':(e.2.2 != 0)=true:=by simpa using hne
   simp only [rofV,Qej,flt]
   refine ya ?_
   refine Qj hT ZI hF hnl 30 ?_
   cases fewB m with
   | false =>
     refine ya ?_
     refine Qj hT Q8 hW rfl 30 ?_
     exact yb
   | true =>
     simp -implicitDefEqProofs (disch:=omega) only [go_sem,↓reduceIte,reduceCtorEq,rA,rq,hne']
     refine Qj hT Q8 hW rfl 30 ?_
     exact yb
 | inl r =>
   have hfr:∀ (n:Nat) (f:Rg.Fn),r[n]?=some f→0≤f.frame∧f.frame≤1984:=fun n f hf=>by
    obtain ⟨_,_,h⟩:=Qwn hof
    obtain ⟨s,_,_,hg,_⟩:=h n f hf
    rw [hg.frame]
    unfold QjS
    split
    ·rename_i h; omega
    ·omega
   have hrl:r.length≤1000:=by
    obtain ⟨h1,h2,_⟩:=Qwn hof
    rw [h2]; exact (QBP h1 hn).1.s
   simp only [rofV,flt]
   simp -implicitDefEqProofs (disch:=omega) only [go_sem,↓reduceIte,reduceCtorEq,rA,rq,rT,Qej]
   refine Qj hT ZI hF hnl 30 ?_
   cases fewB m with
   | false =>
     refine ya ?_
     refine Qj hT Q8 hW rfl 30 ?_
     exact yb
   | true =>
     by_cases hx:1099511627776<next
     ·have hx':decide (1099511627776<next)=true:=decide_eq_true hx
      refine yw ?_
      refine Qj hT Q8 hW rfl 30 ?_
      exact yb
     ·have hx':decide (1099511627776<next)=false:=decide_eq_false hx
      refine yw ?_
      refine Xr (Shift.drop (o':=[]) (t':=t+1+1) (by simp [XT]) (by first | exact lR _ | (show _≤_; omega)) (zL _)) ?_
      refine ZJ r (lfJ params next r) lfE ⟨t+1+1,?_⟩ (fun n f hf fr σ hJ=>QE8 hT F (by omega) hrl hf (hfr n f hf) hJ) (fun n hn fr σ hJ=>QSd hn hJ) (fun e fr σ hE=>?_)
      ·simp -implicitDefEqProofs (disch:=omega) only [go_sem,↓reduceIte,reduceCtorEq,rq,Qej]
       try exact ⟨rfl,rfl⟩
       try rfl
      obtain ⟨rfl,t5,rfl⟩:=hE
      refine QrA [] trivial ?_
      refine Qa 30 ?_
      refine ya ?_
      refine Qj hT Q8 hW rfl 30 ?_
      exact yb
end
end Go.Proofs.YtbdhjeojcpgblaaGreatDoor
