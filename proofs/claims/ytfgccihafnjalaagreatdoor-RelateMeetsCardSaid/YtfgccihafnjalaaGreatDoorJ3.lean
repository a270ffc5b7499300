/- Numbers in words: walked. -/
import Derived.Test.YtfgccihafnjalaaGreatDoorJ2
import Derived.Test.YtfgccihafnjalaaGreatDoorY
open Nat renaming reduceEqDiff → rq, reduceAdd → rA, reduceLeDiff → rL, reduceLT → rT, zero_add → zA, le_refl → lR, zero_le → zL, add_zero → aZ
open List renaming length_cons → lC, length_nil → lN, take_succ_cons → tS, length_append → lA, nil_append → nA, cons_append → cA, append_assoc → aA, take_nil → tN, take_zero → tZ, length_map → lM
open Bool renaming not_false → nF, not_true → nT
namespace Go.Proofs.YtfgccihafnjalaaGreatDoor
open Go Go.Am Go.Rv
set_option maxRecDepth 100000
variable {P:Program} {G:Nat→Option V}
theorem QuD (w:Int) (a m:Nat):0≤fld w a m∧fld w a m<2 ^ m:=by
 have:=(Qbg m m (lR _)).1
 exact ⟨Int.emod_nonneg _ (by omega),Int.emod_lt_of_pos _ (by omega)⟩
theorem Qpd {w:Int} {l:List (Nat × Nat)} {i:Nat} {p:Nat × Nat} (h:l[i]?=some p) (z:Int):QmA w (l.take (i+1)) z=QmA w (l.take i) z * 2 ^ p.2+fld w p.1 p.2:=by
 rw [List.take_add_one,h]; simp [QmA]
theorem Qqq (w:Int) (l:List (Nat × Nat)):∀ i,0≤QmA w (l.take i) 0∧QmA w (l.take i) 0<2 ^ Qt (l.take i) 0:=by
 intro i
 induction i with
 | zero=>simp [QmA,Qt]
 | succ i ih =>
   cases h:l[i]? with
   | none=>rw [List.take_of_length_le (by have:=List.getElem?_eq_none_iff.1 h; omega)]; rw [List.take_of_length_le (by have:=List.getElem?_eq_none_iff.1 h; omega)] at ih; exact ih
   | some p =>
     rw [Qpd h,QfX h]
     obtain ⟨f1,f2⟩:=QuD w p.1 p.2
     obtain ⟨g1,_⟩:=Qbg p.2 p.2 (lR _)
     constructor
     ·have:=Int.mul_nonneg ih.1 (show (0:Int)≤2 ^ p.2 by omega); omega
     ·rw [Int.pow_add]
      have h1:QmA w (l.take i) 0+1≤2 ^ Qt (l.take i) 0:=by omega
      have:=Int.mul_le_mul_of_nonneg_right h1 (show (0:Int)≤2 ^ p.2 by omega)
      rw [Int.add_mul] at this
      omega
theorem QrA (l:List (Nat × Nat)) (i:Nat):Qt (l.take i) 0≤Qt l 0:=by
 have key:∀ (l:List (Nat × Nat)) (a b:Nat),a≤b→a≤Qt l b:=by
  intro l
  induction l with
  | nil=>intro a b h; exact h
  | cons p l ih=>intro a b h; exact ih a (b+p.2) (by omega)
 have:Qt l 0=Qt (l.drop i) (Qt (l.take i) 0):=by
  conv=>lhs; rw [← List.take_append_drop i l]
  rw [Qt,List.foldl_append]; rfl
 rw [this]
 exact key _ _ _ (lR _)
theorem Qv8 {w:Int} {l:List (Nat × Nat)} {i:Nat} {p:Nat × Nat} (h:l[i]?=some p) (hl:Qt l 0≤60) (hp:p.2≤30) :
 IntKind.i64.wrap (BitVec.ofInt 64 (IntKind.i64.wrap (QmA w (l.take i) 0 * 2 ^ min p.2 64)) ||| BitVec.ofInt 64 (IntKind.i64.wrap (fld w p.1 p.2))).toNat=QmA w (l.take (i+1)) 0:=by
 have e1:min p.2 64=p.2:=by omega
 obtain ⟨f1,f2⟩:=QuD w p.1 p.2
 obtain ⟨g1,g2⟩:=Qbg p.2 30 hp
 have hb:=Qqq w l (i+1)
 have hw:=QrA l (i+1)
 obtain ⟨_,q2⟩:=Qbg (Qt (l.take (i+1)) 0) 60 (by omega)
 have hb0:=Qqq w l i
 rw [Qpd h] at hb ⊢
 have hm:=Int.mul_nonneg hb0.1 (show (0:Int)≤2 ^ p.2 by omega)
 rw [e1,wrap_i64 (x:=QmA w (l.take i) 0 * 2 ^ p.2) (by omega) (by omega),wrap_i64 (x:=fld w p.1 p.2) (by omega) (by omega)]
 exact Qt3 .i64 p.2 _ _ hm f1 f2 (Int.mul_emod_left _ _) (by simp [IntKind.max,IntKind.signed,IntKind.bits]; omega)
theorem QtS {n:Int} {b:Nat} (h0:0≤n) (h1:n<2 ^ b) (hb:1≤b) (hb2:b≤60):(IntKind.i64.wrap (n * 2 ^ (64 - b))).fdiv (2 ^ (64 - b))=sgn n b:=by
 obtain ⟨s1,_⟩:=Qbg (64 - b) 64 (by omega)
 have hp:(2:Int) ^ b=2 * 2 ^ (b - 1):=by
  have:b=(b - 1)+1:=by omega
  conv=>lhs; rw [this,Int.pow_succ]
  omega
 have hsp:(2:Int) ^ (64 - b) * 2 ^ (b - 1)=9223372036854775808:=by
  rw [← Int.pow_add]
  have:64 - b+(b - 1)=63:=by omega
  rw [this]; rfl
 unfold sgn
 rw [Int.fdiv_eq_ediv_of_nonneg _ (by omega)]
 generalize hs:(2:Int) ^ (64 - b)=s at *
 generalize hq:(2:Int) ^ (b - 1)=q at *
 rw [hp] at h1 ⊢
 split
 ·rename_i hge
  have e:IntKind.i64.wrap (n * s)=(n - 2 * q) * s:=by
   have a1:=Int.mul_le_mul_of_nonneg_right hge (show 0≤s by omega)
   have a2:=Int.mul_le_mul_of_nonneg_right (show n+1≤2 * q by omega) (show 0≤s by omega)
   rw [Int.add_mul] at a2
   rw [Int.sub_mul,Int.mul_assoc 2 q s,Int.mul_comm q s,hsp]
   rw [Int.mul_assoc 2 q s,Int.mul_comm q s,hsp] at a2
   rw [Int.mul_comm q s,hsp] at a1
   unfold IntKind.wrap
   simp [IntKind.bits,IntKind.signed]
   omega
  rw [e,Int.mul_ediv_cancel _ (by omega)]
 ·rename_i hlt
  have a1:=Int.mul_le_mul_of_nonneg_right (show n+1≤q by omega) (show 0≤s by omega)
  rw [Int.add_mul,Int.mul_comm q s,hsp] at a1
  have a2:=Int.mul_nonneg h0 (show 0≤s by omega)
  rw [wrap_i64 (by omega) (by omega),Int.mul_ediv_cancel _ (by omega)]
theorem QwD (hT:Qw P tab) (a b c:Bool) (l:List (Nat × Nat)) (z:Nat) (sg:Bool) (m w:Int) (hl:l.length≤4) (hb:∀ p∈l,p.1≤31∧p.2≤30) (hz:z≤30) (hwd:Qt l 0+z≤60) (hwz:Qt l z=Qt l 0+z) (hsg:sg=true→1≤Qt l z) (hw:u32 w) :
 Pure P G QaH [.agg (frm a b c l z sg m),.int .u32 w] fun v=>v=.int .i64 (if sg then sgn (QmA w l 0 * 2 ^ z) (Qt l z) else QmA w l 0 * 2 ^ z):=by
 intro t
 obtain ⟨y,hy,hyl⟩:=Qc7 l
 refine Ym 0 (zL _) (Xk hT QdI (by simp [YX]) (Qu 1000 ?_))
 simp -implicitDefEqProofs (disch:=omega) only [go_sem,↓reduceIte,reduceCtorEq,rA,rq,rL,zA,YX,Qxj,Qxi,Qxh,Qxg,Qxf,Qxe,Qxd,Qxc,Qxb,Qxa,QsO,frm,hy,lM]
 refine Qkc (fun n fr σ => ∃ i t', i ≤ l.length ∧ n = l.length - i ∧ Qx fr 1 = .int .u32 w ∧ Qx fr 2 = .ptr 0 t 0 ∧ Qx fr 5 = .int .i64 (QmA w (l.take i) 0) ∧ Qx fr 9 = .lst y (l.map fun b => pr b.1 b.2) true ∧ Qx fr 10 = .int .i64 l.length ∧ Qx fr 11 = .int .i64 i ∧
  σ = ⟨t', [some (.arr t 173 (frm a b c l z sg m))]⟩) (fun n fr σ hJ => ?_) (m0 := l.length) ⟨0, t + 1, zL _, rfl, ?_⟩
 ·obtain ⟨i, t', hi, rfl, f1, f2, f5, f9, f10, f11, rfl⟩ := hJ
  refine Qu 1000 ?_
  rcases Nat.lt_or_ge i l.length with hlt | hge
  ·have hy2:y=2:=by rcases hyl with h | h; exact h; rw [h] at hlt; simp at hlt
   subst hy2
   obtain ⟨p,hp⟩:∃ p,l[i]?=some p:=⟨_,List.getElem?_eq_getElem hlt⟩
   have hpb:=hb p (List.mem_of_getElem? hp)
   have hg:(l.map fun b=>pr b.1 b.2).getD i .any=.agg [.int .i64 p.1,.int .i64 p.2]:=by simp [List.getD_eq_getElem?_getD,hp,pr]
   have e1:=Qv8 (w:=w) hp (by omega) hpb.2
   have e2:=Qeo hlt (by omega)
   simp -implicitDefEqProofs (disch:=omega) only [go_sem,Qf,↓reduceIte,reduceCtorEq,rA,rq,zA,decide_true,nF,lR,zL,frm,hy,lM,f1,f5,f9,f10,f11,hlt,hg]
   refine QaP hT Qaf (c_of hT w p.1 p.2 hw hpb.1 hpb.2) rfl 1000 fun v hv=>?_
   subst hv
   simp -implicitDefEqProofs (disch:=omega) only [go_sem,↓reduceIte,rq,f11]
   refine ⟨l.length - (i+1),_,_,by omega,Shift.drop (o':=[some (.arr t 173 (frm a b c l z sg m))]) (t':=t'+1) (by simp [Xr,frm,hy]) (lR _) (zL _),i+1,t'+1,hlt,rfl,?_⟩
   simp -implicitDefEqProofs (disch:=omega) only [go_sem,↓reduceIte,rq,frm,hy,f1,f2,f9,f10,e2]
   exact congrArg (V.int .i64) e1
  ·have hi:i=l.length:=by omega
   subst hi
   rw [List.take_length] at f5
   have hac:=Qqq w l l.length
   rw [List.take_length] at hac
   simp -implicitDefEqProofs (disch:=omega) only [go_sem,↓reduceIte,decide_false,f10,f11,show ¬ l.length<l.length from by omega]
   refine Qb 1000 ?_
   have ez:min z 64=z:=by omega
   obtain ⟨g1,g2⟩:=Qbg (Qt l 0+z) 60 hwd
   obtain ⟨y1,_⟩:=Qbg z 30 hz
   have h1:=Int.mul_le_mul_of_nonneg_right (show QmA w l 0+1≤2 ^ Qt l 0 by omega) (show (0:Int)≤2 ^ z by omega)
   rw [Int.add_mul,← Int.pow_add] at h1
   have h2:=Int.mul_nonneg hac.1 (show (0:Int)≤2 ^ z by omega)
   have e3:IntKind.i64.wrap (QmA w l 0 * 2 ^ z)=QmA w l 0 * 2 ^ z:=wrap_i64 (by omega) (by omega)
   cases sg with
   | false=>simp -implicitDefEqProofs (disch:=omega) only [go_sem,Qf,↓reduceIte,rA,rq,rL,zA,zL,f2,f5,frm,hy,ez,e3]
   | true =>
     have cw:=QuT (G:=G) hT a b c l z true m hl (fun p hp=>(hb p hp).2) hz
     simp only [frm,hy] at cw
     have hwd1:=hsg rfl
     have e4:IntKind.i64.wrap (64 - (Qt l z:Int))=((64 - Qt l z:Nat):Int):=by rw [wrap_i64 (by omega) (by omega)]; omega
     have e5:=QtS (n:=QmA w l 0 * 2 ^ z) (b:=Qt l z) h2 (by rw [hwz]; omega) hwd1 (by omega)
     have e6:min (64 - Qt l z) 64=64 - Qt l z:=by omega
     have e7:(0:Int)≤((64 - Qt l z:Nat):Int):=by omega
     simp -implicitDefEqProofs (disch:=omega) only [go_sem,Qf,↓reduceIte,reduceCtorEq,rA,rq,rL,zA,lR,f2,f5,frm,hy,ez,e3]
     refine QaP hT Zs cw rfl 1000 fun v hv=>?_
     subst hv
     simp -implicitDefEqProofs (disch:=omega) only [go_sem,↓reduceIte,rq,e4,e6,e7,Int.toNat_natCast]
     refine QaP hT Zs cw rfl 1000 fun v hv=>?_
     subst hv
     simp -implicitDefEqProofs (disch:=omega) only [go_sem,↓reduceIte,rq,zA,zL,e4,e6,e7,Int.toNat_natCast,e5]
 ·simp -implicitDefEqProofs (disch:=omega) only [go_sem,↓reduceIte,reduceCtorEq,rq,frm,hy]
  simp [QmA]
theorem c_fits (hT:Qw P tab) (a b c:Bool) (l:List (Nat × Nat)) (z:Nat) (sg:Bool) (m n:Int) (hl:l.length≤4) (hb:∀ p∈l,p.1≤31∧p.2≤30) (hz:z≤30) (hwd:Qt l z≤60) (hn:i64 n) :
 Pure P G Qch [.agg (frm a b c l z sg m),.int .i64 n] fun v=>v=.bool (if sg then decide (n≥(0 - (2:Int) ^ Qt l z).tdiv 2∧n<((2:Int) ^ Qt l z).tdiv 2∧n % 2 ^ z=0) else decide (n≥0∧n<(2:Int) ^ Qt l z∧n % 2 ^ z=0)):=by
 intro t
 obtain ⟨y,hy,hyl⟩:=Qc7 l
 have cw:=QuT (G:=G) hT a b c l z sg m hl (fun p hp=>(hb p hp).2) hz
 simp only [frm,hy] at cw
 obtain ⟨g1,g2⟩:=Qbg (Qt l z) 60 hwd
 obtain ⟨y1,y2⟩:=Qbg z 30 hz
 have e1:min (Qt l z) 64=Qt l z:=by omega
 have e2:min z 64=z:=by omega
 have e3:IntKind.i64.wrap (1 * 2 ^ Qt l z)=2 ^ Qt l z:=by rw [Int.one_mul]; exact wrap_i64 (by omega) (by omega)
 have e4:IntKind.i64.wrap (0 - 2 ^ Qt l z)=0 - 2 ^ Qt l z:=wrap_i64 (by omega) (by omega)
 have d1:((2:Int) ^ Qt l z).tdiv 2=2 ^ Qt l z / 2:=Int.tdiv_eq_ediv_of_nonneg (by omega)
 have d2:(0 - (2:Int) ^ Qt l z).tdiv 2=-(2 ^ Qt l z / 2):=by rw [Int.zero_sub,Int.neg_tdiv,d1]
 have e5:IntKind.i64.wrap ((0 - 2 ^ Qt l z:Int).tdiv 2)=(0 - 2 ^ Qt l z:Int).tdiv 2:=wrap_i64 (by omega) (by omega)
 have e6:IntKind.i64.wrap ((2 ^ Qt l z:Int).tdiv 2)=(2 ^ Qt l z:Int).tdiv 2:=wrap_i64 (by omega) (by omega)
 have e7:IntKind.i64.wrap (1 * 2 ^ z)=2 ^ z:=by rw [Int.one_mul]; exact wrap_i64 (by omega) (by omega)
 have e8:IntKind.i64.wrap ((2:Int) ^ z - 1)=2 ^ z - 1:=wrap_i64 (by omega) (by omega)
 have e9:IntKind.i64.wrap (BitVec.ofInt 64 n &&& BitVec.ofInt 64 ((2:Int) ^ z - 1)).toNat=n % 2 ^ z:=Qqp .i64 z _ _ rfl (by simp [IntKind.bits]; omega)
 refine Ym 0 (zL _) (Xk hT QfI (by simp [Qag]) (Qu 1000 ?_))
 simp -implicitDefEqProofs (disch:=omega) only [go_sem,↓reduceIte,reduceCtorEq,rA,rq,zA,lR,ge_iff_le,Qag,QxQ,QxP,QxO,QxN,QxM,frm,hy]
 refine QaP hT Zs cw rfl 1000 fun v hv=>?_
 subst hv
 cases sg with
 | false =>
   simp -implicitDefEqProofs (disch:=omega) only [go_sem,Qf,↓reduceIte,reduceCtorEq,rA,rq,rL,zA,zL,ge_iff_le,e1,e2,e3,e7,e8]
   have e9':=e9
   refine ⟨fun h1=>⟨fun h2=>?_,fun h2=>?_⟩,fun h1=>?_⟩
   ·have:V.bool (n % 2 ^ z==0)=V.bool (decide (0≤n∧n<2 ^ Qt l z∧n % 2 ^ z=0)):=by simp [h1,h2]; rfl
    rw [← this]
    exact congrArg (fun x:Int=>V.bool (x==0)) e9
   ·simp [h2]
   ·simp [h1]
 | true =>
   simp -implicitDefEqProofs (disch:=omega) only [go_sem,Qf,↓reduceIte,reduceCtorEq,rA,rq,rL,Int.reduceEq,zA,zL,ge_iff_le,e1,e2,e3,e4,e5,e6,e7,e8]
   refine ⟨fun h1=>⟨fun h2=>?_,fun h2=>?_⟩,fun h1=>?_⟩
   ·have:V.bool (n % 2 ^ z==0)=V.bool (decide ((0 - (2:Int) ^ Qt l z).tdiv 2≤n∧n<((2:Int) ^ Qt l z).tdiv 2∧n % 2 ^ z=0)):=by simp only [h1,h2,true_and]; rfl
    rw [← this]
    exact congrArg (fun x:Int=>V.bool (x==0)) e9
   ·simp only [h2,false_and,and_false,decide_false]
   ·simp only [h1,false_and,decide_false]
theorem Qsl (hT:Qw P tab) (l:List Int) (q:Bool) (hl:l.length≤100):Pure P G QgZ [.lst 1 (l.map (V.int .u32)) q] fun v=>v=.int .u32 (orP l):=by
 intro t
 refine Ym 0 (zL _) (Xk hT QgI (by simp [Qbc]) (Qu 1000 ?_))
 simp -implicitDefEqProofs (disch:=omega) only [go_sem,↓reduceIte,reduceCtorEq,rq,Qbc,QxL,QxK,QxJ,QxI,QxH,QxG,QxF,QxE,lM]
 refine Qkc (fun n fr σ=>∃ i,i≤l.length∧n=l.length - i∧Qx fr 3=.int .u32 (orP (l.take i))∧Qx fr 6=.lst 1 (l.map (V.int .u32)) q∧Qx fr 7=.int .i64 l.length∧Qx fr 8=.int .i64 i ∧
  σ=⟨t,[]⟩) (fun n fr σ hJ=>?_) (m0:=l.length) ⟨0,zL _,rfl,?_⟩
 ·obtain ⟨i,hi,rfl,f3,f6,f7,f8,rfl⟩:=hJ
  refine Qu 1000 ?_
  rcases Nat.lt_or_ge i l.length with hlt | hge
  ·obtain ⟨p,hp⟩:∃ p,l[i]?=some p:=⟨_,List.getElem?_eq_getElem hlt⟩
   have hg:(l.map (V.int .u32)).getD i .any=.int .u32 p:=by simp [List.getD_eq_getElem?_getD,hp]
   have e1:orP (l.take (i+1))=IntKind.u32.wrap (BitVec.ofInt 32 (orP (l.take i)) ||| BitVec.ofInt 32 p).toNat:=by rw [List.take_add_one,hp]; simp [orP]
   have e2:=Qeo hlt (by omega)
   simp -implicitDefEqProofs (disch:=omega) only [go_sem,Qf,↓reduceIte,rq,zA,decide_true,lR,lM,f3,f6,f7,f8,hlt,hg]
   refine ⟨l.length - (i+1),_,_,by omega,Shift.refl _ _ _ _,i+1,hlt,rfl,?_⟩
   simp -implicitDefEqProofs (disch:=omega) only [go_sem,↓reduceIte,rq,f6,f7,e2,and_true]
   exact congrArg (V.int .u32) e1.symm
  ·have hi:i=l.length:=by omega
   subst hi
   rw [List.take_length] at f3
   simp -implicitDefEqProofs (disch:=omega) only [go_sem,↓reduceIte,decide_false,f7,f8,show ¬ l.length<l.length from by omega]
   refine Qb 1000 ?_
   simp -implicitDefEqProofs (disch:=omega) only [go_sem,↓reduceIte,rq,lR,f3]
 ·refine ya ?_
  simp [orP]
theorem QmI:tabC.length=594:=by decide +kernel
theorem QjZ:ones tabC:=by
 have:tabC.all Qv7=true:=by decide +kernel
 intro c hc
 exact List.all_eq_true.1 this c hc
theorem QgG:Qc tabC=true:=by decide +kernel
theorem QqE:∀ k:Fin 66,(tabC.drop (k * 9)).take 9=(if k.val=0 then zeroC else Qlz (T.getD (k.val - 1) ⟨0,[],0,0,0⟩)):=by
 intro k
 have h:∀ (l:List RR) (j:Nat),j<l.length→(((l.map Qlz).flatten).drop (j * 9)).take 9=Qlz (l.getD j ⟨0,[],0,0,0⟩):=by
  intro l
  induction l with
  | nil=>intro j hj; simp at hj
  | cons r l ih =>
    intro j hj
    cases j with
    | zero=>simp [Qlz,QkG]
    | succ j =>
      have:=ih j (by simpa using hj)
      have e:(j+1) * 9=(Qlz r).length+j * 9:=by simp [Qlz,QkG]; omega
      rw [List.map_cons,List.flatten_cons,e,← List.drop_drop,List.drop_left,this]
      rfl
 obtain ⟨k,hk⟩:=k
 cases k with
 | zero=>simp [tabC,zeroC]
 | succ k =>
   have e:(k+1) * 9=zeroC.length+k * 9:=by simp [zeroC]; omega
   simp only [tabC,e]
   rw [← List.drop_drop,List.drop_left,h T k (by rw [Qqr]; omega)]
   simp
def rowOf (op:Int):List V:=if 1≤op∧op≤65 then Qlz (T.getD (op.toNat - 1) ⟨0,[],0,0,0⟩) else zeroC
theorem QnX {op:Int} (h0:0≤op) (h1:op<66):(tabC.drop (op.toNat * 9)).take 9=rowOf op:=by
 have h:=QqE ⟨op.toNat,by omega⟩
 simp only at h
 rw [h]
 unfold rowOf
 by_cases hz:op.toNat=0
 ·rw [if_pos hz,if_neg (by omega)]
 ·rw [if_neg hz,if_pos (by omega)]
theorem Qv2 (op:Int) (h0:0≤op) (h1:op<66):(rowOf op).length=9∧ones (rowOf op)∧Qc (rowOf op)=true:=by
 rw [← QnX h0 h1]
 have hl:=QmI
 refine ⟨by simp; omega,fun c hc=>QjZ c (List.mem_of_mem_drop (List.mem_of_mem_take hc)),?_⟩
 have hn:=QgG
 have key:∀ (l:List V),Qc l=true→∀ k,Qc (l.drop k)=true∧Qc (l.take k)=true:=by
  intro l
  induction l with
  | nil=>intro _ k; simp [Qc]
  | cons v l ih =>
    intro h k
    simp only [Qc,Bool.and_eq_true] at h
    cases k with
    | zero=>simp [Qc,h]
    | succ k=>simp [Qc,h.1,ih h.2 k]
 exact (key _ (key _ hn _).1 _).2
theorem QzC (hT:Qw P tab) (op:Int) (h0:0≤op) (h1:op≤255):Pure P G0 Qua [.int .u8 op] fun v=>v=.tup [.agg (rowOf op),.bool (decide (1≤op∧op≤65))]:=by
 intro t
 have hl:=QmI
 have hc:=QjZ
 refine Ym 0 (zL _) (Xk hT Qpq (by simp [QtV]) (Qu 1000 ?_))
 simp -implicitDefEqProofs (disch:=omega) only [go_sem,↓reduceIte,reduceCtorEq,rq,QtV,QxX,QxW,QxV,QxU,QxT]
 refine QaP hT Qmi (QuU hT) rfl 1000 fun v hv=>?_
 subst hv
 simp -implicitDefEqProofs (disch:=omega) only [go_sem,↓reduceIte,reduceCtorEq,rA,rq,rL,zA,nF,lR,zL,ge_iff_le,hl,hc]
 have e1:IntKind.i64.wrap op=op:=wrap_i64 (by omega) (by omega)
 rw [e1]
 refine ⟨fun h=>?_,fun h=>⟨fun h2=>?_,fun h2=>?_⟩⟩
 ·unfold rowOf; simp [show ¬ (1≤op) from by omega,zeroC]
 ·unfold rowOf; simp [show ¬ (op≤65) from by omega,zeroC]
 ·have hg:=QnX h0 (show op<66 by omega)
  obtain ⟨g1,g2,g3⟩:=Qv2 op h0 (by omega)
  rw [hg]
  simp only [Q4,g1,g2,g3,h0,List.drop_succ_cons,List.drop_nil,List.append_nil,List.take_of_length_le (show (rowOf op).length≤9 by omega),and_self,lR,show op.toNat<66 by omega,show op.toNat * 9≤585 by omega,show (1≤op∧op≤65)=True by simp; omega,decide_true]
end Go.Proofs.YtfgccihafnjalaaGreatDoor
