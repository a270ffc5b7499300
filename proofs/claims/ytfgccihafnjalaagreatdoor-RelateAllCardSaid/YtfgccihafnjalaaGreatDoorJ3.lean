/- Numbers in words: walked. -/
import Derived.Test.YtfgccihafnjalaaGreatDoorJ2
import Derived.Test.YtfgccihafnjalaaGreatDoorY
open Nat renaming reduceEqDiff → rq, reduceAdd → rA, reduceLeDiff → rL, reduceLT → rT, zero_add → zA, le_refl → lR, zero_le → zL, add_zero → aZ
open List renaming length_cons → lC, length_nil → lN, take_succ_cons → tS, length_append → lA, nil_append → nA, cons_append → cA, append_assoc → aA, take_nil → tN, take_zero → tZ, length_map → lM
open Bool renaming not_false → nF, not_true → nT
namespace Go.Proofs.YtfgccihafnjalaaGreatDoor
open Go Go.Am Go.Rv
set_option maxRecDepth 100000
variable {P:Program} {G:Nat→Option V}
section
attribute [local go_sem] nF lR zA zL decide_false decide_true Qz Zh QCa QB9 QwM QB8 QB7 QB6 QB5 QB4 QB3 QB2 QB1
theorem QyD (w:Int) (a m:Nat):0≤fld w a m∧fld w a m<2 ^ m:=by
 have:=(QbD m m (lR _)).1
 exact ⟨Int.emod_nonneg _ (by omega),Int.emod_lt_of_pos _ (by omega)⟩
variable {p:Nat × Nat} {i:Nat} {l:List (Nat × Nat)} {w:Int}
theorem Qsf (h:l[i]?=some p) (z:Int):QoO w (l.take (i+1)) z=QoO w (l.take i) z * 2 ^ p.2+fld w p.1 p.2:=by
 rw [List.take_add_one,h]; simp [QoO]
theorem QtO (w:Int) (l:List (Nat × Nat)):∀ i,0≤QoO w (l.take i) 0∧QoO w (l.take i) 0<2 ^ Qv (l.take i) 0:=by
 intro i
 induction i with
 | zero=>simp [QoO,Qv]
 | succ i ih =>
   cases h:l[i]? with
   | none=>rw [List.take_of_length_le (by have:=List.getElem?_eq_none_iff.1 h; omega)]; rw [List.take_of_length_le (by have:=List.getElem?_eq_none_iff.1 h; omega)] at ih; exact ih
   | some p =>
     rw [Qsf h,QgH h]
     obtain ⟨f1,f2⟩:=QyD w p.1 p.2
     obtain ⟨g1,_⟩:=QbD p.2 p.2 (lR _)
     constructor
     ·have:=Int.mul_nonneg ih.1 (show (0:Int)≤2 ^ p.2 by omega); omega
     ·rw [Int.pow_add]
      have h1:QoO w (l.take i) 0+1≤2 ^ Qv (l.take i) 0:=by omega
      have:=Int.mul_le_mul_of_nonneg_right h1 (show (0:Int)≤2 ^ p.2 by omega)
      rw [Int.add_mul] at this
      omega
theorem Qva (l:List (Nat × Nat)) (i:Nat):Qv (l.take i) 0≤Qv l 0:=by
 have key:∀ (l:List (Nat × Nat)) (a b:Nat),a≤b→a≤Qv l b:=by
  intro l
  induction l with
  | nil=>intro a b h; exact h
  | cons p l ih=>intro a b h; exact ih a (b+p.2) (by omega)
 have:Qv l 0=Qv (l.drop i) (Qv (l.take i) 0):=by
  conv=>lhs; rw [← List.take_append_drop i l]
  rw [Qv,List.foldl_append]; rfl
 rw [this]
 exact key _ _ _ (lR _)
theorem QAn (h:l[i]?=some p) (hl:Qv l 0≤60) (hp:p.2≤30) :
 IntKind.i64.wrap (BitVec.ofInt 64 (IntKind.i64.wrap (QoO w (l.take i) 0 * 2 ^ min p.2 64)) ||| BitVec.ofInt 64 (IntKind.i64.wrap (fld w p.1 p.2))).toNat=QoO w (l.take (i+1)) 0:=by
 have e1:min p.2 64=p.2:=by omega
 obtain ⟨f1,f2⟩:=QyD w p.1 p.2
 obtain ⟨g1,g2⟩:=QbD p.2 30 hp
 have hb:=QtO w l (i+1)
 have hw:=Qva l (i+1)
 obtain ⟨_,q2⟩:=QbD (Qv (l.take (i+1)) 0) 60 (by omega)
 have hb0:=QtO w l i
 rw [Qsf h] at hb ⊢
 have hm:=Int.mul_nonneg hb0.1 (show (0:Int)≤2 ^ p.2 by omega)
 rw [e1,wrap_i64 (x:=QoO w (l.take i) 0 * 2 ^ p.2) (by omega) (by omega),wrap_i64 (x:=fld w p.1 p.2) (by omega) (by omega)]
 exact QxZ .i64 p.2 _ _ hm f1 f2 (Int.mul_emod_left _ _) (by simp [IntKind.max,IntKind.signed,IntKind.bits]; omega)
theorem QxH {n:Int} {b:Nat} (h0:0≤n) (h1:n<2 ^ b) (hb:1≤b) (hb2:b≤60):(IntKind.i64.wrap (n * 2 ^ (64 - b))).fdiv (2 ^ (64 - b))=sgn n b:=by
 obtain ⟨s1,_⟩:=QbD (64 - b) 64 (by omega)
 have hp:(2:Int) ^ b=2 * 2 ^ (b - 1):=by
  have:b=(b - 1)+1:=by omega
  conv=>lhs; rw [this,Int.pow_succ]
  omega
 have hsp:(2:Int) ^ (64 - b) * 2 ^ (b - 1)=9223372036854775808:=by
  rw [← Int.pow_add]
  have:64 - b+(b - 1)=63:=by omega
  rw [this]; rfl
 unfold sgn
 rw [Int.fdiv_eq_ediv_of_nonneg _ (by omega)]
 generalize hs:(2:Int) ^ (64 - b)=s at *
 generalize hq:(2:Int) ^ (b - 1)=q at *
 rw [hp] at h1 ⊢
 split
 ·rename_i hge
  have e:IntKind.i64.wrap (n * s)=(n - 2 * q) * s:=by
   have a1:=Int.mul_le_mul_of_nonneg_right hge (show 0≤s by omega)
   have a2:=Int.mul_le_mul_of_nonneg_right (show n+1≤2 * q by omega) (show 0≤s by omega)
   rw [Int.add_mul] at a2
   rw [Int.sub_mul,Int.mul_assoc 2 q s,Int.mul_comm q s,hsp]
   rw [Int.mul_assoc 2 q s,Int.mul_comm q s,hsp] at a2
   rw [Int.mul_comm q s,hsp] at a1
   unfold IntKind.wrap
   simp [IntKind.bits,IntKind.signed]
   omega
  rw [e,Int.mul_ediv_cancel _ (by omega)]
 ·rename_i hlt
  have a1:=Int.mul_le_mul_of_nonneg_right (show n+1≤q by omega) (show 0≤s by omega)
  rw [Int.add_mul,Int.mul_comm q s,hsp] at a1
  have a2:=Int.mul_nonneg h0 (show 0≤s by omega)
  rw [wrap_i64 (by omega) (by omega),Int.mul_ediv_cancel _ (by omega)]
theorem QA8 (hT:Qh P tab) (a b c:Bool) (l:List (Nat × Nat)) (z:Nat) (sg:Bool) (m w:Int) (hl:l.length≤4) (hb:∀ p∈l,p.1≤31∧p.2≤30) (hz:z≤30) (hwd:Qv l 0+z≤60) (hwz:Qv l z=Qv l 0+z) (hsg:sg=true→1≤Qv l z) (hw:u32 w) :
 Pure P G Qa1 [.agg (frm a b c l z sg m),.int .u32 w] fun v=>v=.int .i64 (if sg then sgn (QoO w l 0 * 2 ^ z) (Qv l z) else QoO w l 0 * 2 ^ z):=by
 intro t
 obtain ⟨y,hy,hyl⟩:=Qdj l
 refine Xq 0 (zL _) (Q0 hT Qd1 (by simp [Zh]) (Ql 1000 ?_))
 simp -implicitDefEqProofs (disch:=omega) only [go_sem,↓reduceIte,reduceCtorEq,rA,rq,rL,frm,hy,lM]
 refine QlP (fun n fr σ=>∃ i t',i≤l.length∧n=l.length - i∧Qf fr 1=.int .u32 w∧Qf fr 2=.ptr 0 t 0∧Qf fr 5=.int .i64 (QoO w (l.take i) 0)∧Qf fr 9=.lst y (l.map fun b=>pr b.1 b.2) true∧Qf fr 10=.int .i64 l.length∧Qf fr 11=.int .i64 i ∧
  σ=⟨t',[some (.arr t 173 (frm a b c l z sg m))]⟩) (fun n fr σ hJ=>?_) (m0:=l.length) ⟨0,t+1,zL _,rfl,?_⟩
 ·obtain ⟨i,t',hi,rfl,f1,f2,f5,f9,f10,f11,rfl⟩:=hJ
  refine Ql 1000 ?_
  rcases Nat.lt_or_ge i l.length with hlt | hge
  ·have hy2:y=2:=by rcases hyl with h | h; exact h; rw [h] at hlt; simp at hlt
   subst hy2
   obtain ⟨p,hp⟩:∃ p,l[i]?=some p:=⟨_,List.getElem?_eq_getElem hlt⟩
   have hpb:=hb p (List.mem_of_getElem? hp)
   have hg:(l.map fun b=>pr b.1 b.2).getD i .any=.agg [.int .i64 p.1,.int .i64 p.2]:=by simp [List.getD_eq_getElem?_getD,hp,pr]
   have e1:=QAn (w:=w) hp (by omega) hpb.2
   have e2:=Qe2 hlt (by omega)
   simp -implicitDefEqProofs (disch:=omega) only [go_sem,↓reduceIte,reduceCtorEq,rA,rq,frm,hy,lM,f1,f5,f9,f10,f11,hlt,hg]
   refine QaO hT Qav (c_of hT w p.1 p.2 hw hpb.1 hpb.2) rfl 1000 fun v hv=>?_
   subst hv
   simp -implicitDefEqProofs (disch:=omega) only [go_sem,↓reduceIte,rq,f11]
   refine ⟨l.length - (i+1),_,_,by omega,Shift.drop (o':=[some (.arr t 173 (frm a b c l z sg m))]) (t':=t'+1) (by simp [Xw,frm,hy]) (lR _) (zL _),i+1,t'+1,hlt,rfl,?_⟩
   simp -implicitDefEqProofs (disch:=omega) only [go_sem,↓reduceIte,rq,frm,hy,f1,f2,f9,f10,e2]
   exact congrArg (V.int .i64) e1
  ·have hi:i=l.length:=by omega
   subst hi
   rw [List.take_length] at f5
   have hac:=QtO w l l.length
   rw [List.take_length] at hac
   simp -implicitDefEqProofs (disch:=omega) only [go_sem,↓reduceIte,f10,f11,show ¬ l.length<l.length from by omega]
   refine Qa 1000 ?_
   have ez:min z 64=z:=by omega
   obtain ⟨g1,g2⟩:=QbD (Qv l 0+z) 60 hwd
   obtain ⟨y1,_⟩:=QbD z 30 hz
   have h1:=Int.mul_le_mul_of_nonneg_right (show QoO w l 0+1≤2 ^ Qv l 0 by omega) (show (0:Int)≤2 ^ z by omega)
   rw [Int.add_mul,← Int.pow_add] at h1
   have h2:=Int.mul_nonneg hac.1 (show (0:Int)≤2 ^ z by omega)
   have e3:IntKind.i64.wrap (QoO w l 0 * 2 ^ z)=QoO w l 0 * 2 ^ z:=wrap_i64 (by omega) (by omega)
   cases sg with
   | false=>simp -implicitDefEqProofs (disch:=omega) only [go_sem,↓reduceIte,rA,rq,rL,f2,f5,frm,hy,ez,e3]
   | true =>
     have cw:=QyU (G:=G) hT a b c l z true m hl (fun p hp=>(hb p hp).2) hz
     simp only [frm,hy] at cw
     have hwd1:=hsg rfl
     have e4:IntKind.i64.wrap (64 - (Qv l z:Int))=((64 - Qv l z:Nat):Int):=by rw [wrap_i64 (by omega) (by omega)]; omega
     have e5:=QxH (n:=QoO w l 0 * 2 ^ z) (b:=Qv l z) h2 (by rw [hwz]; omega) hwd1 (by omega)
     have e6:min (64 - Qv l z) 64=64 - Qv l z:=by omega
     have e7:(0:Int)≤((64 - Qv l z:Nat):Int):=by omega
     simp -implicitDefEqProofs (disch:=omega) only [go_sem,↓reduceIte,reduceCtorEq,rA,rq,rL,f2,f5,frm,hy,ez,e3]
     refine QaO hT ZB cw rfl 1000 fun v hv=>?_
     subst hv
     simp -implicitDefEqProofs (disch:=omega) only [go_sem,↓reduceIte,rq,e4,e6,e7,Int.toNat_natCast]
     refine QaO hT ZB cw rfl 1000 fun v hv=>?_
     subst hv
     simp -implicitDefEqProofs (disch:=omega) only [go_sem,↓reduceIte,rq,e4,e6,e7,Int.toNat_natCast,e5]
 ·simp -implicitDefEqProofs (disch:=omega) only [go_sem,↓reduceIte,reduceCtorEq,rq,frm,hy]
  simp [QoO]
end
section
attribute [local go_sem] nF lR zA zL decide_false decide_true ge_iff_le Qz Qay QCJ QCI QCH QCG QCF QxL QCQ QCP QCO QCN QCM QbA QCE QCD QCC QCB QCA QCz QCy QCx
theorem c_fits (hT:Qh P tab) (a b c:Bool) (l:List (Nat × Nat)) (z:Nat) (sg:Bool) (m n:Int) (hl:l.length≤4) (hb:∀ p∈l,p.1≤31∧p.2≤30) (hz:z≤30) (hwd:Qv l z≤60) (hn:i64 n) :
 Pure P G Qcx [.agg (frm a b c l z sg m),.int .i64 n] fun v=>v=.bool (if sg then decide (n≥(0 - (2:Int) ^ Qv l z).tdiv 2∧n<((2:Int) ^ Qv l z).tdiv 2∧n % 2 ^ z=0) else decide (n≥0∧n<(2:Int) ^ Qv l z∧n % 2 ^ z=0)):=by
 intro t
 obtain ⟨y,hy,hyl⟩:=Qdj l
 have cw:=QyU (G:=G) hT a b c l z sg m hl (fun p hp=>(hb p hp).2) hz
 simp only [frm,hy] at cw
 obtain ⟨g1,g2⟩:=QbD (Qv l z) 60 hwd
 obtain ⟨y1,y2⟩:=QbD z 30 hz
 have e1:min (Qv l z) 64=Qv l z:=by omega
 have e2:min z 64=z:=by omega
 have e3:IntKind.i64.wrap (1 * 2 ^ Qv l z)=2 ^ Qv l z:=by rw [Int.one_mul]; exact wrap_i64 (by omega) (by omega)
 have e4:IntKind.i64.wrap (0 - 2 ^ Qv l z)=0 - 2 ^ Qv l z:=wrap_i64 (by omega) (by omega)
 have d1:((2:Int) ^ Qv l z).tdiv 2=2 ^ Qv l z / 2:=Int.tdiv_eq_ediv_of_nonneg (by omega)
 have d2:(0 - (2:Int) ^ Qv l z).tdiv 2=-(2 ^ Qv l z / 2):=by rw [Int.zero_sub,Int.neg_tdiv,d1]
 have e5:IntKind.i64.wrap ((0 - 2 ^ Qv l z:Int).tdiv 2)=(0 - 2 ^ Qv l z:Int).tdiv 2:=wrap_i64 (by omega) (by omega)
 have e6:IntKind.i64.wrap ((2 ^ Qv l z:Int).tdiv 2)=(2 ^ Qv l z:Int).tdiv 2:=wrap_i64 (by omega) (by omega)
 have e7:IntKind.i64.wrap (1 * 2 ^ z)=2 ^ z:=by rw [Int.one_mul]; exact wrap_i64 (by omega) (by omega)
 have e8:IntKind.i64.wrap ((2:Int) ^ z - 1)=2 ^ z - 1:=wrap_i64 (by omega) (by omega)
 have e9:IntKind.i64.wrap (BitVec.ofInt 64 n &&& BitVec.ofInt 64 ((2:Int) ^ z - 1)).toNat=n % 2 ^ z:=QtN .i64 z _ _ rfl (by simp [IntKind.bits]; omega)
 refine Xq 0 (zL _) (Q0 hT Qgq (by simp [Qay]) (Ql 1000 ?_))
 simp -implicitDefEqProofs (disch:=omega) only [go_sem,↓reduceIte,reduceCtorEq,rA,rq,frm,hy]
 refine QaO hT ZB cw rfl 1000 fun v hv=>?_
 subst hv
 cases sg with
 | false =>
   simp -implicitDefEqProofs (disch:=omega) only [go_sem,↓reduceIte,reduceCtorEq,rA,rq,rL,e1,e2,e3,e7,e8]
   have e9':=e9
   refine ⟨fun h1=>⟨fun h2=>?_,fun h2=>?_⟩,fun h1=>?_⟩
   ·have:V.bool (n % 2 ^ z==0)=V.bool (decide (0≤n∧n<2 ^ Qv l z∧n % 2 ^ z=0)):=by simp [h1,h2]; rfl
    rw [← this]
    exact congrArg (fun x:Int=>V.bool (x==0)) e9
   ·simp [h2]
   ·simp [h1]
 | true =>
   simp -implicitDefEqProofs (disch:=omega) only [go_sem,↓reduceIte,reduceCtorEq,rA,rq,rL,Int.reduceEq,e1,e2,e3,e4,e5,e6,e7,e8]
   refine ⟨fun h1=>⟨fun h2=>?_,fun h2=>?_⟩,fun h1=>?_⟩
   ·have:V.bool (n % 2 ^ z==0)=V.bool (decide ((0 - (2:Int) ^ Qv l z).tdiv 2≤n∧n<((2:Int) ^ Qv l z).tdiv 2∧n % 2 ^ z=0)):=by simp only [h1,h2,true_and]; rfl
    rw [← this]
    exact congrArg (fun x:Int=>V.bool (x==0)) e9
   ·simp only [h2,false_and,and_false,decide_false]
   ·simp only [h1,false_and,decide_false]
theorem QvX (hT:Qh P tab) (l:List Int) (q:Bool) (hl:l.length≤100):Pure P G QhX [.lst 1 (l.map (V.int .u32)) q] fun v=>v=.int .u32 (orP l):=by
 intro t
 refine Xq 0 (zL _) (Q0 hT QhJ (by simp [QbA]) (Ql 1000 ?_))
 refine yx ?_
 refine QlP (fun n fr σ=>∃ i,i≤l.length∧n=l.length - i∧Qf fr 3=.int .u32 (orP (l.take i))∧Qf fr 6=.lst 1 (l.map (V.int .u32)) q∧Qf fr 7=.int .i64 l.length∧Qf fr 8=.int .i64 i ∧
  σ=⟨t,[]⟩) (fun n fr σ hJ=>?_) (m0:=l.length) ⟨0,zL _,rfl,?_⟩
 ·obtain ⟨i,hi,rfl,f3,f6,f7,f8,rfl⟩:=hJ
  refine Ql 1000 ?_
  rcases Nat.lt_or_ge i l.length with hlt | hge
  ·obtain ⟨p,hp⟩:∃ p,l[i]?=some p:=⟨_,List.getElem?_eq_getElem hlt⟩
   have hg:(l.map (V.int .u32)).getD i .any=.int .u32 p:=by simp [List.getD_eq_getElem?_getD,hp]
   have e1:orP (l.take (i+1))=IntKind.u32.wrap (BitVec.ofInt 32 (orP (l.take i)) ||| BitVec.ofInt 32 p).toNat:=by rw [List.take_add_one,hp]; simp [orP]
   have e2:=Qe2 hlt (by omega)
   simp -implicitDefEqProofs (disch:=omega) only [go_sem,↓reduceIte,rq,lM,f3,f6,f7,f8,hlt,hg]
   refine ⟨l.length - (i+1),_,_,by omega,Shift.refl _ _ _ _,i+1,hlt,rfl,?_⟩
   simp -implicitDefEqProofs (disch:=omega) only [go_sem,↓reduceIte,rq,f6,f7,e2,and_true]
   exact congrArg (V.int .u32) e1.symm
  ·have hi:i=l.length:=by omega
   subst hi
   rw [List.take_length] at f3
   simp -implicitDefEqProofs (disch:=omega) only [go_sem,↓reduceIte,f7,f8,show ¬ l.length<l.length from by omega]
   refine Qa 1000 ?_
   simp -implicitDefEqProofs (disch:=omega) only [go_sem,↓reduceIte,rq,f3]
 ·refine ya ?_
  simp [orP]
theorem Qo9:tabC.length=594:=by decide +kernel
theorem QlC:ones tabC:=by
 have:tabC.all QAm=true:=by decide +kernel
 intro c hc
 exact List.all_eq_true.1 this c hc
theorem QhH:Qb tabC=true:=by decide +kernel
theorem Qt6:∀ k:Fin 66,(tabC.drop (k * 9)).take 9=(if k.val=0 then zeroC else Qnn (T.getD (k.val - 1) ⟨0,[],0,0,0⟩)):=by
 intro k
 have h:∀ (l:List RR) (j:Nat),j<l.length→(((l.map Qnn).flatten).drop (j * 9)).take 9=Qnn (l.getD j ⟨0,[],0,0,0⟩):=by
  intro l
  induction l with
  | nil=>intro j hj; simp at hj
  | cons r l ih =>
    intro j hj
    cases j with
    | zero=>simp [Qnn,Qms]
    | succ j =>
      have:=ih j (by simpa using hj)
      have e:(j+1) * 9=(Qnn r).length+j * 9:=by simp [Qnn,Qms]; omega
      rw [List.map_cons,List.flatten_cons,e,← List.drop_drop,List.drop_left,this]
      rfl
 obtain ⟨k,hk⟩:=k
 cases k with
 | zero=>simp [tabC,zeroC]
 | succ k =>
   have e:(k+1) * 9=zeroC.length+k * 9:=by simp [zeroC]; omega
   simp only [tabC,e]
   rw [← List.drop_drop,List.drop_left,h T k (by rw [QtP]; omega)]
   simp
def rowOf (op:Int):List V:=if 1≤op∧op≤65 then Qnn (T.getD (op.toNat - 1) ⟨0,[],0,0,0⟩) else zeroC
theorem QqQ {op:Int} (h0:0≤op) (h1:op<66):(tabC.drop (op.toNat * 9)).take 9=rowOf op:=by
 have h:=Qt6 ⟨op.toNat,by omega⟩
 simp only at h
 rw [h]
 unfold rowOf
 by_cases hz:op.toNat=0
 ·rw [if_pos hz,if_neg (by omega)]
 ·rw [if_neg hz,if_pos (by omega)]
theorem Qz7 (op:Int) (h0:0≤op) (h1:op<66):(rowOf op).length=9∧ones (rowOf op)∧Qb (rowOf op)=true:=by
 rw [← QqQ h0 h1]
 have hl:=Qo9
 refine ⟨by simp; omega,fun c hc=>QlC c (List.mem_of_mem_drop (List.mem_of_mem_take hc)),?_⟩
 have hn:=QhH
 have key:∀ (l:List V),Qb l=true→∀ k,Qb (l.drop k)=true∧Qb (l.take k)=true:=by
  intro l
  induction l with
  | nil=>intro _ k; simp [Qb]
  | cons v l ih =>
    intro h k
    simp only [Qb,Bool.and_eq_true] at h
    cases k with
    | zero=>simp [Qb,h]
    | succ k=>simp [Qb,h.1,ih h.2 k]
 exact (key _ (key _ hn _).1 _).2
theorem QFr (hT:Qh P tab) (op:Int) (h0:0≤op) (h1:op≤255):Pure P G0 Qx9 [.int .u8 op] fun v=>v=.tup [.agg (rowOf op),.bool (decide (1≤op∧op≤65))]:=by
 intro t
 have hl:=Qo9
 have hc:=QlC
 refine Xq 0 (zL _) (Q0 hT QsF (by simp [QxL]) (Ql 1000 ?_))
 refine ya ?_
 refine QaO hT Qok (QyV hT) rfl 1000 fun v hv=>?_
 subst hv
 simp -implicitDefEqProofs (disch:=omega) only [go_sem,↓reduceIte,reduceCtorEq,rA,rq,rL,hl,hc]
 have e1:IntKind.i64.wrap op=op:=wrap_i64 (by omega) (by omega)
 rw [e1]
 refine ⟨fun h=>?_,fun h=>⟨fun h2=>?_,fun h2=>?_⟩⟩
 ·unfold rowOf; simp [show ¬ (1≤op) from by omega,zeroC]
 ·unfold rowOf; simp [show ¬ (op≤65) from by omega,zeroC]
 ·have hg:=QqQ h0 (show op<66 by omega)
  obtain ⟨g1,g2,g3⟩:=Qz7 op h0 (by omega)
  rw [hg]
  simp only [Q8,g1,g2,g3,h0,List.drop_succ_cons,List.drop_nil,List.append_nil,List.take_of_length_le (show (rowOf op).length≤9 by omega),and_self,lR,show op.toNat<66 by omega,show op.toNat * 9≤585 by omega,show (1≤op∧op≤65)=True by simp; omega,decide_true]
end
end Go.Proofs.YtfgccihafnjalaaGreatDoor
