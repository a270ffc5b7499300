/- Contracts: a rune of a row of bytes; whether it is a space. -/
import Derived.Test.YtingdebioipemaaGreatDoorJ5
import Derived.Lib.ConvBytes
import Derived.Lib.AtoiAllCases
import Derived.Test.YtingdebioipemaaGreatDoorJ1
open Nat renaming reduceEqDiff → rq, reduceAdd → rA, reduceLeDiff → rL, reduceLT → rT, zero_add → zA, le_refl → lR, zero_le → zL, add_zero → aZ
open List renaming length_cons → lC, length_nil → lN, take_succ_cons → tS, length_append → lAq, nil_append → nAq, cons_append → cAq, append_assoc → aA, take_nil → tN, take_zero → tZ, length_map → lM
open Bool renaming not_false → nFq, not_true → nT
namespace Go.Proofs.YtingdebioipemaaGreatDoor
open Go Go.Am Go.Cl Go.Ct
set_option maxRecDepth 100000
variable {G:Nat→Option V}
section
attribute [local go_sem] nFq lM aZ lR Nat.mul_one zA zL and_true Xu decide_false decide_true false_implies ge_iff_le Qt Qdk true_and true_implies QJ Qwh Qwg Qp6 Qp5 Qp4 Qp3 Qp2 Qp1 Qp0 QpZ QpY QpX Qwf QpW QpV QpU QpT QpS QpR QpQ Qwe Qwd Qwc Qwb Qwa Qv9 Qv8
def u8T:List Int:=List.replicate 128 240++List.replicate 64 241++[241,241]++List.replicate 30 2++[19]++List.replicate 12 3++[35,3,3,52,4,4,4,68]++List.replicate 11 241
def accT:List Int:=[128,191,160,191,128,159,144,191,128,143]++List.replicate 22 0
theorem u8T_ok:∀ k,k<256→(u8T.getD k 0≥240∧u8T.getD k 0<256)∨(¬ u8T.getD k 0≥240∧2≤IntKind.i64.wrap (Qzf .u8 (u8T.getD k 0) 7)∧IntKind.i64.wrap (Qzf .u8 (u8T.getD k 0) 7)≤4∧0≤(u8T.getD k 0).fdiv (2 ^ min 4 8)∧(u8T.getD k 0).fdiv (2 ^ min 4 8)<16):=by decide +kernel
theorem u8T_at (b:UInt8):(u8T.map (V.int .u8)).getD b.toNat .any=.int .u8 (u8T.getD b.toNat 0):=by
 have h:b.toNat<u8T.length:=b.toNat_lt
 simp [List.getD_eq_getElem?_getD,List.getElem?_eq_getElem h]
theorem Qa8 {s:List UInt8} {i:Nat} (h:i<s.length):(Qg s).getD i .any=.int .u8 (s[i].toNat:Nat):=by simp [Qg,List.getD_eq_getElem?_getD,List.getElem?_eq_getElem h]
def RuneQ (s:List UInt8) (u:V):Prop:=∃ r k:Int,u=.tup [.int .i32 r,.int .i64 k]∧1≤k∧k≤s.length
theorem Qo1 (hT:Qn Tryz.prog tab) (h1:G 7=some (Qdk .u8 u8T)) (h2:G 8=some (Qdk .u8 accT)) (s:List UInt8) (T:Bool) (hs:s≠[]) (hl:s.length≤1000000) :
 Am.Pure Tryz.prog G Ym [.lst 1 (Qg s) T] (RuneQ s):=by
 intro t
 have hpos:0<s.length:=List.length_pos_iff.2 hs
 have hb0:=Qa8 hpos
 have hlt1:¬ (s.length:Int)<1:=by omega
 have hu:=u8T_at s[0]
 have hul:u8T.length=256:=rfl
 have hal:accT.length=32:=rfl
 have hb256:=(s[0]).toNat_lt
 have hok:=u8T_ok s[0].toNat hb256
 generalize u8T.getD s[0].toNat 0=x at hu hok
 refine Xa 0 (zL _) (QM hT Yi (by simp [QJ]) ?_)
 rcases hok with ⟨hx,_⟩ | ⟨hx,hz1,hz2,hq1,hq2⟩
 ·refine Qx 1000 ?_
  simp -implicitDefEqProofs (disch:=omega) only [go_sem,↓reduceIte,reduceCtorEq,rq,rL,Int.reduceToNat,Int.reduceLE,hlt1,hpos,hb0,h1,hul,hu,hx]
  exact ⟨_,1,rfl,by omega,by omega⟩
 ·obtain ⟨z,hz⟩:∃ z,IntKind.i64.wrap (Qzf .u8 x 7)=z:=⟨_,rfl⟩
  obtain ⟨q,hq⟩:∃ q,x.fdiv (2 ^ min 4 8)=q:=⟨_,rfl⟩
  rw [hz] at hz1 hz2
  rw [hq] at hq1 hq2
  obtain ⟨k,rfl⟩:∃ k:Nat,q=(k:Int):=⟨q.toNat,by omega⟩
  have hk:k<16:=by omega
  have hk2:k * 2≤30:=by omega
  obtain ⟨lo,hi,hacc⟩:∃ lo hi:Int,List.take 2 (List.drop (k * 2) (accT.map (V.int .u8)))=[.int .u8 lo,.int .u8 hi]:=by
   refine ⟨accT.getD (k * 2) 0,accT.getD (k * 2+1) 0,?_⟩
   have key:∀ k,k<16→List.take 2 (List.drop (k * 2) accT)=[accT.getD (k * 2) 0,accT.getD (k * 2+1) 0]:=by decide
   rw [← List.map_drop,← List.map_take,key k hk]; rfl
  refine Qx 58 ?_
  simp -implicitDefEqProofs (disch:=omega) only [go_sem,↓reduceIte,reduceCtorEq,rA,rq,rL,Int.reduceToNat,Int.reduceLE,hlt1,hpos,hb0,h1,h2,hul,hal,hu,hx,hz,hq,hk,hk2,hacc,Int.toNat_natCast]
  by_cases g:(s.length:Int)<z
  ·refine Qc 1000 ?_
   simp -implicitDefEqProofs (disch:=omega) only [go_sem,↓reduceIte,reduceCtorEq,rq,g]
   exact ⟨_,1,rfl,by omega,by omega⟩
  have l1:1<s.length:=by omega
  have hb1:=Qa8 l1
  by_cases g2:z≤2
  ·refine Qc 1000 ?_
   simp -implicitDefEqProofs (disch:=omega) only [go_sem,↓reduceIte,reduceCtorEq,rA,rq,rL,Int.reduceToNat,Int.reduceLE,g,l1,hb1,g2]
   repeat' (first | refine And.intro ?_ ?_ | intro _ | exact ⟨_,_,rfl,by omega,by omega⟩)
  have l2:2<s.length:=by omega
  have hb2:=Qa8 l2
  by_cases g3:z≤3
  ·refine Qc 1000 ?_
   simp -implicitDefEqProofs (disch:=omega) only [go_sem,↓reduceIte,reduceCtorEq,rA,rq,rL,Int.reduceToNat,Int.reduceLE,g,l1,l2,hb1,hb2,g2,g3]
   repeat' (first | refine And.intro ?_ ?_ | intro _ | exact ⟨_,_,rfl,by omega,by omega⟩)
  have l3:3<s.length:=by omega
  have hb3:=Qa8 l3
  refine Qc 1000 ?_
  simp -implicitDefEqProofs (disch:=omega) only [go_sem,↓reduceIte,reduceCtorEq,rA,rq,rL,Int.reduceToNat,Int.reduceLE,g,l1,l2,l3,hb1,hb2,hb3,g2,g3]
  repeat' (first | refine And.intro ?_ ?_ | intro _ | exact ⟨_,_,rfl,by omega,by omega⟩)
end
section
attribute [local go_sem] aZ lR zA zL and_true decide_false decide_true gt_iff_lt Qt not_false_eq_true true_and true_implies unicode_IsSpace Qxr Qxq Qq4 Qq3 Qq2 Qq1 Qxp Qxo Qxn Qxm Qxl Qxk Qxj Qxi Z2 Qv7 Qv6 QpP QpO QpN QpM QpL QpK QpJ QpI QpH QpG Qv5 QpF QpE QpD Qv4 Qv3 Qv2 Qv1 Qv0 QvZ QvY Q6 Qwu Qwt Qws Qwr Qwq Qwp Qwo Qwn Qwm Xe QwC QwB QwA Qwz Qwy Qwx Qww Qwv
theorem c_rune (hT:Qn Tryz.prog tab) (h1:G 7=some (Qdk .u8 u8T)) (h2:G 8=some (Qdk .u8 accT)) (s:List UInt8) (T:Bool) (hs:s≠[]) (hl:s.length≤1000000) :
 Am.Pure Tryz.prog G Y0 [.lst 1 (Qg s) T] (RuneQ s):=by
 have h:=Qo1 hT h1 h2 s T hs hl
 intro t
 have hpos:0<s.length:=List.length_pos_iff.2 hs
 have hb0:=Qa8 hpos
 have hlt:(0:Int)<(s.length:Int):=by omega
 refine Xa 0 (zL _) (QM hT YW (by simp [Xe]) (Qx 1000 ?_))
 simp -implicitDefEqProofs (disch:=omega) only [go_sem,↓reduceIte,reduceCtorEq,rq,Xu]
 refine QX (m0:=0) (fun _ fr σ=>Qi fr 0=.lst 1 (Qg s) T∧Qi fr 6=.lst 1 (Qg s) T∧Qi fr 7=.int .i64 (s.length:Int)∧Qi fr 8=.int .i64 0∧σ=⟨t,[]⟩) (fun e fr σ=>(e=.ret∧∃ r,Qi fr 2=.int .i32 r∧Qi fr 3=.int .i64 1)∨(e=.ex 0∧Qi fr 0=.lst 1 (Qg s) T∧σ=⟨t,[]⟩)) ⟨rfl,rfl,rfl,rfl,rfl⟩ (fun m fr σ hJ=>?_) (fun e fr σ hE=>?_)
 ·obtain ⟨f0,f6,f7,f8,rfl⟩:=hJ
  refine Qh [(0,.lst 1 (Qg s) T),(6,.lst 1 (Qg s) T),(7,.int .i64 (s.length:Int)),(8,.int .i64 0)] ⟨f0,f6,f7,f8,trivial⟩ 1000 ?_
  simp -implicitDefEqProofs (disch:=omega) only [go_sem,↓reduceIte,reduceCtorEq,rq,Int.reduceToNat,Int.reduceLE,Xu,hlt,hpos,hb0]
  repeat' (first | refine And.intro ?_ ?_ | intro _ | exact .inl ⟨rfl,_,rfl,rfl⟩ | exact .inr ⟨rfl,rfl,rfl⟩ | exact ⟨_,rfl⟩ | exact ⟨_,rfl,rfl⟩ | rfl)
 ·rcases hE with ⟨rfl,r,f2,f3⟩ | ⟨rfl,f0,rfl⟩
  ·refine Qc 1000 ?_
   simp -implicitDefEqProofs (disch:=omega) only [go_sem,f2,f3]
   exact ⟨r,1,rfl,by omega,by omega⟩
  ·refine QO [(0,.lst 1 (Qg s) T)] ⟨f0,trivial⟩ 1000 ?_
   simp -implicitDefEqProofs (disch:=omega) only [go_sem,↓reduceIte,reduceCtorEq]
   refine Qcc hT Yi h (by simp [Qb,Qd]) 1000 fun u hu=>?_
   obtain ⟨r,k,rfl,hk⟩:=hu
   simp -implicitDefEqProofs (disch:=omega) only [go_sem,↓reduceIte,reduceCtorEq,rA,rq,rT]
   exact ⟨r,k,rfl,hk⟩
def rgV (r:Int × Int × Int):V:=.agg [.int .u16 r.1,.int .u16 r.2.1,.int .u16 r.2.2]
def WsOk (G:Nat→Option V):Prop:=∃ (rows:List (Int × Int × Int)) (T T':Bool) (off:Nat),G 2=some (.ref (.agg [.lst 3 (rows.map rgV) T,.lst 3 [] T',.int .i64 off]) 0)∧rows.length≤18∧∀ r∈rows,r.2.2≠0
def QBu (u:V):Prop:=∃ b,u=.bool b
abbrev isJ (t0:Nat) (rows:List (Int × Int × Int)) (T:Bool) (z:Int):Nat→Fr→H→Prop:=fun i fr σ=>Qi fr 0=.lst 3 (rows.map rgV) T∧Qi fr 1=.int .u16 z∧Qi fr 19=.int .i64 (rows.length:Int)∧Qi fr 20=.int .i64 (i:Int)∧σ=⟨t0,[]⟩
theorem c_is16 (hT:Qn Tryz.prog tab) (rows:List (Int × Int × Int)) (T:Bool) (z:Int) (hr:rows.length≤18) (hs:∀ r∈rows,r.2.2≠0):Am.Pure Tryz.prog G Qev [.lst 3 (rows.map rgV) T,.int .u16 z] QBu:=by
 intro t
 have h18:(rows.length:Int)≤18:=by omega
 refine Xa 0 (zL _) (QM hT Qeq (by simp [Z2]) (Qx 1000 ?_))
 simp -implicitDefEqProofs (disch:=omega) only [go_sem,↓reduceIte,reduceCtorEq,rq,lM,h18]
 refine Y7 rows.length (isJ t rows T z) (fun e fr _=>(e=.ret∧∃ b,Qi fr 4=.bool b)∨e=.ex 0) ⟨rfl,rfl,rfl,rfl,rfl⟩ (fun i hi fr σ hJ=>?_) (fun i hi fr σ hJ=>?_) (fun e fr σ hE=>?_)
 ·obtain ⟨f0,f1,f19,f20,rfl⟩:=hJ
  have hlt:(i:Int)<(rows.length:Int):=by omega
  have e2:=YR hi (by omega)
  have hg:(rows.map rgV).getD i .any=rgV rows[i]:=by simp [List.getD_eq_getElem?_getD,List.getElem?_eq_getElem hi]
  have hst:=hs rows[i] (List.getElem_mem hi)
  simp only [rgV] at hg
  refine Qh [(0,.lst 3 (rows.map rgV) T),(1,.int .u16 z),(19,.int .i64 (rows.length:Int)),(20,.int .i64 (i:Int))] ⟨f0,f1,f19,f20,trivial⟩  1000 ?_
  simp -implicitDefEqProofs (disch:=omega) only [go_sem,↓reduceIte,reduceCtorEq,rA,rq,rL,lM,hlt,hi,hg,hst]
  repeat' (first | refine And.intro ?_ ?_ | intro _ | exact ⟨_,rfl⟩ | exact ⟨_,_,Shift.refl _ _ _ _,rfl,rfl,rfl,by rw [e2]; rfl,rfl⟩)
 ·obtain ⟨f0,f1,f19,f20,rfl⟩:=hJ
  refine Qh [(0,.lst 3 (rows.map rgV) T),(1,.int .u16 z),(19,.int .i64 (rows.length:Int)),(20,.int .i64 (i:Int))] ⟨f0,f1,f19,f20,trivial⟩  1000 ?_
  simp -implicitDefEqProofs (disch:=omega) only [go_sem,↓reduceIte,reduceCtorEq,rq,hi,Int.lt_irrefl]
 ·rcases hE with ⟨rfl,b,f4⟩ | rfl
  ·refine Qc 1000 ?_
   simp -implicitDefEqProofs (disch:=omega) only [go_sem,f4]
   exact ⟨b,rfl⟩
  ·refine Qc 1000 ?_
   simp -implicitDefEqProofs (disch:=omega) only [go_sem,↓reduceIte]
   exact ⟨_,rfl⟩
theorem Qs2 (hT:Qn Tryz.prog tab) (rows:List (Int × Int × Int)) (T T':Bool) (off:Nat) (r:Int) (hr:rows.length≤18) (hs:∀ r∈rows,r.2.2≠0) :
 Am.Pure Tryz.prog G YQ [.ref (.agg [.lst 3 (rows.map rgV) T,.lst 3 [] T',.int .i64 off]) 0,.int .i32 r] QBu:=by
 intro t
 have c0:((0:Nat):Int)=0:=rfl
 have z0:¬ (0:Int)<0:=by decide
 refine Xa 0 (zL _) (QM hT YP (by simp [Q6]) ?_)
 by_cases g:(off:Int)<(rows.length:Int)
 ·have w1:IntKind.i64.wrap ((rows.length:Int) - 1)=((rows.length - 1:Nat):Int):=by
   rw [show (rows.length:Int) - 1=((rows.length - 1:Nat):Int) by omega]
   exact Ya .i64 (by show -9223372036854775808≤_; omega) (by show _≤9223372036854775807; omega)
  have hlast:rows.length - 1<rows.length:=by omega
  have hg:(rows.map rgV).getD (rows.length - 1) .any=rgV rows[rows.length - 1]:=by simp [List.getD_eq_getElem?_getD,List.getElem?_eq_getElem hlast]
  have hol:off≤rows.length:=by omega
  have hdr:List.take (rows.length - off) (List.drop off (rows.map rgV))=(rows.drop off).map rgV:=by
   rw [List.map_drop]; exact List.take_of_length_le (by simp)
  have h16:=fun z=>c_is16 (G:=G) hT (rows.drop off) T z (by simp; omega) (fun r hr=>hs r (List.mem_of_mem_drop hr))
  simp only [rgV] at hg
  refine Qx 1000 ?_
  simp -implicitDefEqProofs (disch:=omega) only [go_sem,↓reduceIte,reduceCtorEq,rA,rq,rL,lM,Int.toNat_natCast,g,w1,hlast,hg,c0,z0,hol,hdr]
  refine ⟨fun _=>Qcc hT Qeq (h16 _) (by simp [Qb,Qd]) 1000 fun u hu=>?_,fun _=>⟨_,rfl⟩⟩
  obtain ⟨b,rfl⟩:=hu
  simp -implicitDefEqProofs (disch:=omega) only [go_sem,↓reduceIte,reduceCtorEq,rq]
  exact ⟨b,rfl⟩
 ·refine Qx 1000 ?_
  simp -implicitDefEqProofs (disch:=omega) only [go_sem,↓reduceIte,reduceCtorEq,rA,rq,rL,lM,g,c0,z0]
  exact ⟨_,rfl⟩
theorem Qs1 (hT:Qn Tryz.prog tab) (hw:WsOk G) (r:Int):Am.Pure Tryz.prog G Q8 [.int .i32 r] QBu:=by
 obtain ⟨rows,T,T',off,hG,hr,hs⟩:=hw
 have h:=fun r=>Qs2 (G:=G) hT rows T T' off r hr hs
 intro t
 refine Xa 0 (zL _) (QM hT QbN (by simp [unicode_IsSpace]) ?_)
 by_cases g:IntKind.u32.wrap r≤255
 ·refine Qx 1000 ?_
  simp -implicitDefEqProofs (disch:=omega) only [go_sem,↓reduceIte,reduceCtorEq,rq,g]
  repeat' (first | refine And.intro ?_ ?_ | intro _ | exact ⟨_,rfl⟩)
 ·refine Qx 1000 ?_
  simp -implicitDefEqProofs (disch:=omega) only [go_sem,↓reduceIte,reduceCtorEq,rq,g,hG]
  refine Qcc hT YP (h _) (by simp [Qb,Qd]) 1000 fun u hu=>?_
  obtain ⟨b,rfl⟩:=hu
  simp -implicitDefEqProofs (disch:=omega) only [go_sem,↓reduceIte,reduceCtorEq,rq]
  exact ⟨b,rfl⟩
end
section
attribute [local go_sem] nFq nT aZ lR Nat.mul_one zA zL and_true Xu Yt Qxv Qxu Ql8 Ql7 Ql6 Qrc Qrb Ql5 Ql4 QjJ QjI QjH Qxt QjG Ql3 Qxs Qra Qq9 Qq8 Qq7 Qq6 Qq5 decide_false decide_true false_implies ge_iff_le Qt true_and true_implies
def QfP (sp:List (Nat × Nat)):List V:=(sp.map fun p=>[V.int .i64 (p.1:Nat),V.int .i64 (p.2:Nat)]).flatten
theorem QhI (sp:List (Nat × Nat)):(QfP sp).length=sp.length * 2:=by
 unfold QfP
 induction sp with
 | nil=>rfl
 | cons p sp ih=>simp only [List.map_cons,List.flatten_cons,lAq,ih,lC,lN]; omega
theorem Qjc (sp:List (Nat × Nat)) (a b:Nat):QfP sp++[V.int .i64 (a:Nat),V.int .i64 (b:Nat)]=QfP (sp++[(a,b)]):=by simp [QfP]
def Spans (l:List UInt8) (sp:List (Nat × Nat)):Prop:=∀ p∈sp,p.1≤p.2∧p.2≤l.length
variable {sp:List (Nat × Nat)} {l:List UInt8}
theorem Spans.snoc (h:Spans l sp) {a b:Nat} (hab:a≤b) (hb:b≤l.length):Spans l (sp++[(a,b)]):=fun p hp=>by
 rcases List.mem_append.1 hp with hp | hp
 ·exact h p hp
 ·rw [List.mem_singleton] at hp; subst hp; exact ⟨hab,hb⟩
abbrev ffJ (l:List UInt8) (T:Bool):Nat→Fr→H→Prop:=fun m fr σ=>∃ (i:Nat) (st:Int) (sp:List (Nat × Nat)) (w t':Nat),i≤l.length∧m=l.length - i∧Spans l sp∧((st=-1∧sp.length≤i)∨(0≤st∧(sp.length:Int)≤st∧st<i))∧Qi fr 0=.lst 1 (Qg l) T∧Qi fr 1=.fn (.func Q8) [] []∧Qi fr 5=.sl 0 w 0 2 sp.length none∧Qi fr 6=.int .i64 st∧Qi fr 7=.int .i64 (i:Int)∧σ=⟨t',[some (.arr w 121 (QfP sp))]⟩
abbrev ffE (l:List UInt8) (T:Bool):AE→Fr→H→Prop:=fun e fr σ=>e=.ex 0∧∃ (i:Nat) (st:Int) (sp:List (Nat × Nat)) (w t':Nat),i=l.length∧Spans l sp∧((st=-1∧sp.length≤i)∨(0≤st∧(sp.length:Int)≤st∧st<i))∧Qi fr 0=.lst 1 (Qg l) T∧Qi fr 1=.fn (.func Q8) [] []∧Qi fr 5=.sl 0 w 0 2 sp.length none∧Qi fr 6=.int .i64 st∧Qi fr 7=.int .i64 (i:Int)∧σ=⟨t',[some (.arr w 121 (QfP sp))]⟩
variable {σ:H} {fr:Fr} {T:Bool}
theorem Qut (hT:Qn Tryz.prog tab) (h1:G 7=some (Qdk .u8 u8T)) (h2:G 8=some (Qdk .u8 accT)) (hw:WsOk G) (hl:l.length≤1000000) {m:Nat} (hJ:ffJ l T m fr σ) :
 W Tryz.prog G 74 0 (.seq (zg Qra [14,15,16] (zw 17 .skip (.exit 0))) (.block 1 (zg Qq9 [19,20,21,22,18,23,24] (.seq (zg Qq8 [25,26] (zw 27 (zg Qq7 [28] (zw 29 (zg Qq6 [30,31,32,33,34,35] (.reg Qq5 [])) .skip)) (zg Ql8 [36] (zw 37 (.reg Ql7 [38]) .skip)))) (.reg Ql6 [39,40,41]))))) fr σ (ZB (fun fr σ=>∃ m' fr' σ',m'<m∧Shift G 74 0 fr σ fr' σ'∧ffJ l T m' fr' σ') (ffE l T)):=by
 obtain ⟨i,st,sp,w,t',hil,hm,hsp,hst,f0,f1,f5,f6,f7,rfl⟩:=hJ
 rcases Nat.lt_or_ge i l.length with hi | hi
 ·have hlt:(i:Int)<(l.length:Int):=by omega
  have hdr:List.take (l.length - i) (List.drop i (Qg l))=Qg (l.drop i):=by
   rw [ZV,YM,List.take_of_length_le (by simp)]
  have hR:=c_rune (G:=G) hT h1 h2 (l.drop i) T (by simp; omega) (by simp; omega)
  refine Qh [(0,.lst 1 (Qg l) T),(1,.fn (.func Q8) [] []),(5,.sl 0 w 0 2 sp.length none),(6,.int .i64 st),(7,.int .i64 (i:Int))] ⟨f0,f1,f5,f6,f7,trivial⟩  1000 ?_
  simp -implicitDefEqProofs (disch:=omega) only [go_sem,↓reduceIte,reduceCtorEq,rq,hlt,hil,hdr]
  refine Qcc hT YW hR (by simp [Qb,Qd]) 1000 fun u hu=>?_
  obtain ⟨r,k,rfl,hk1,hk2⟩:=hu
  simp -implicitDefEqProofs (disch:=omega) only [go_sem,↓reduceIte,reduceCtorEq,rA,rq,rT]
  have hk3:k≤(l.length - i:Nat):=by simpa using hk2
  obtain ⟨kk,rfl⟩:∃ kk:Nat,k=(kk:Int):=⟨k.toNat,by omega⟩
  have e2:IntKind.i64.wrap ((i:Int)+(kk:Int))=((i+kk:Nat):Int):=by
   rw [show (i:Int)+(kk:Int)=((i+kk:Nat):Int) by omega]
   exact Ya .i64 (by show -9223372036854775808≤_; omega) (by show _≤9223372036854775807; omega)
  refine Qcc hT QbN (Qs1 hT hw r) (by simp [Qb,Qd]) 1000 fun u hu=>?_
  obtain ⟨b,rfl⟩:=hu
  rcases hst with ⟨rfl,hs1⟩ | ⟨hs0,hs1,hs2⟩
  ·have n1:¬ (0:Int)≤-1:=by decide
   have n2:(-1:Int)<0:=by decide
   cases b with
   | true =>
     simp -implicitDefEqProofs (disch:=omega) only [go_sem,↓reduceIte,reduceCtorEq,rq,n1,e2]
     refine ⟨l.length - (i+kk),_,_,by omega,Shift.refl _ _ _ _,i+kk,-1,sp,w,t',by omega,rfl,hsp,.inl ⟨rfl,by omega⟩,rfl,rfl,rfl,rfl,rfl,rfl⟩
   | false =>
     simp -implicitDefEqProofs (disch:=omega) only [go_sem,↓reduceIte,reduceCtorEq,rq,n2,e2]
     refine ⟨l.length - (i+kk),_,_,by omega,Shift.refl _ _ _ _,i+kk,(i:Int),sp,w,t',by omega,rfl,hsp,.inr ⟨by omega,by omega,by omega⟩,rfl,rfl,rfl,rfl,rfl,rfl⟩
  ·obtain ⟨sn,rfl⟩:∃ sn:Nat,st=(sn:Int):=⟨st.toNat,by omega⟩
   have n1:(0:Int)≤(sn:Int):=hs0
   have n2:¬ (sn:Int)<0:=by omega
   cases b with
   | true =>
     simp -implicitDefEqProofs (disch:=omega) only [go_sem,↓reduceIte,reduceCtorEq,rA,rq,rL,n1,e2]
     refine ⟨⟨(QhI sp).symm,by omega,by omega⟩,?_⟩
     refine ⟨l.length - (i+kk),_,_,by omega,Shift.refl _ _ _ _,i+kk,-1,sp++[(sn,i)],t',t'+1,by omega,rfl,hsp.snoc (by omega) hil,.inl ⟨rfl,by simp; omega⟩,rfl,rfl,by simp; rfl,rfl,rfl,?_⟩
     rw [Qjc]
   | false =>
     simp -implicitDefEqProofs (disch:=omega) only [go_sem,↓reduceIte,reduceCtorEq,rq,n2,e2]
     refine ⟨l.length - (i+kk),_,_,by omega,Shift.refl _ _ _ _,i+kk,(sn:Int),sp,w,t',by omega,rfl,hsp,.inr ⟨by omega,by omega,by omega⟩,rfl,rfl,rfl,rfl,rfl,rfl⟩
 ·have hlt:¬ (i:Int)<(l.length:Int):=by omega
  refine Qh [(0,.lst 1 (Qg l) T),(1,.fn (.func Q8) [] []),(5,.sl 0 w 0 2 sp.length none),(6,.int .i64 st),(7,.int .i64 (i:Int))] ⟨f0,f1,f5,f6,f7,trivial⟩  1000 ?_
  simp -implicitDefEqProofs (disch:=omega) only [go_sem,↓reduceIte,reduceCtorEq,rq,hlt]
  exact ⟨rfl,i,st,sp,w,t',by omega,hsp,hst,rfl,rfl,rfl,rfl,rfl,rfl⟩
def Qbk (l:List UInt8) (p:Nat × Nat):List UInt8:=(l.take p.2).drop p.1
abbrev fgH (w w2:Nat) (l:List UInt8) (sp:List (Nat × Nat)) (i:Nat):List (Option Ob):=[some (.arr w 121 (QfP sp)),some (.arr w2 25 (spC ((sp.take i).map (Qbk l)) (sp.length - i)))]
abbrev fgJ (w w2:Nat) (l:List UInt8) (T:Bool) (sp:List (Nat × Nat)):Nat→Fr→H→Prop:=fun i fr σ=>∃ t',Qi fr 0=.lst 1 (Qg l) T∧Qi fr 10=.sl 1 w2 0 1 sp.length none∧Qi fr 54=.sl 0 w 0 2 sp.length none∧Qi fr 55=.int .i64 (sp.length:Int)∧Qi fr 56=.int .i64 (i:Int)∧σ=⟨t',fgH w w2 l sp i⟩
abbrev fgE (w w2:Nat) (l:List UInt8) (sp:List (Nat × Nat)):AE→Fr→H→Prop:=fun e fr σ=>e=.ex 2∧∃ t',Qi fr 10=.sl 1 w2 0 1 sp.length none∧σ=⟨t',fgH w w2 l sp sp.length⟩
variable {i w:Nat}
theorem QtN (h:i<sp.length):List.take 2 (List.drop (i * 2) (QfP sp))=[V.int .i64 (sp[i].1:Nat),V.int .i64 (sp[i].2:Nat)]:=by
 induction sp generalizing i with
 | nil=>simp at h
 | cons p sp ih =>
   cases i with
   | zero=>simp [QfP]
   | succ i =>
     have:=ih (i:=i) (by simpa using h)
     simp only [List.getElem_cons_succ]
     rw [← this,show (i+1) * 2=i * 2+2 by omega]
     simp [QfP]
theorem Qus (hT:Qn Tryz.prog tab) {w2:Nat} (hsp:Spans l sp) (hl:l.length≤1000000) (hsl:sp.length≤1000000) (hi:i<sp.length) (hJ:fgJ w w2 l T sp i fr σ) :
 W Tryz.prog G 74 0 (zg QjJ [] (.seq (zw 57 .skip (.exit 2)) (.seq (.block 3 (zg QjI [58,59,60] (.reg QjH [61,62,63,64,65,66,67,68,69,70,71]))) (.reg QjG [72])))) fr σ (ZB (fun fr σ=>∃ fr' σ',Shift G 74 0 fr σ fr' σ'∧fgJ w w2 l T sp (i+1) fr' σ') (fgE w w2 l sp)):=by
 obtain ⟨t',f0,f10,f54,f55,f56,rfl⟩:=hJ
 have hlt:(i:Int)<(sp.length:Int):=by omega
 have e2:=YR hi (by omega)
 have hat:=QtN hi
 have hcl:=QhI sp
 obtain ⟨hp1,hp2⟩:=hsp sp[i] (List.getElem_mem hi)
 refine Qh [(0,.lst 1 (Qg l) T),(10,.sl 1 w2 0 1 sp.length none),(54,.sl 0 w 0 2 sp.length none),(55,.int .i64 (sp.length:Int)),(56,.int .i64 (i:Int))] ⟨f0,f10,f54,f55,f56,trivial⟩  1000 ?_
 have hd:((sp.take i).map (Qbk l)).length=i:=by simp; omega
 have hx:V.lst 1 (List.take (sp[i].snd - sp[i].fst) (List.drop sp[i].fst (Qg l))) true=V.lst 1 (Qg (Qbk l sp[i])) true:=by
  rw [ZV,YM,Qbk,List.drop_take]
 obtain ⟨k,hk⟩:∃ k,sp.length - i=k+1:=⟨sp.length - i - 1,by omega⟩
 have hput:=QjQ hd (Qbk l sp[i]) k _ hx
 have hlen:i+1≤(spC ((sp.take i).map (Qbk l)) (k+1)).length:=by rw [QhJ,hd]; omega
 have hnx:fgH w w2 l sp (i+1)=[some (.arr w 121 (QfP sp)),some (.arr w2 25 (spC ((sp.take i).map (Qbk l)++[Qbk l sp[i]]) k))]:=by
  unfold fgH
  rw [List.take_add_one,List.getElem?_eq_getElem hi,List.map_append,show sp.length - (i+1)=k by omega]
  rfl
 unfold fgH
 rw [hk]
 simp -implicitDefEqProofs (disch:=omega) only [go_sem,↓reduceIte,reduceCtorEq,rA,rq,rL,hlt,hi,hat,hcl,e2,hlen,hput]
 exact ⟨_,_,Shift.drop (o':=fgH w w2 l sp (i+1)) (t':=t'+1) (by rw [hnx]; simp [XJ]) (lR _) (zL _),t'+1,rfl,rfl,rfl,rfl,rfl,rfl⟩
def ffQ (l:List UInt8) (u:V) (σ:H):Prop:=∃ (sp:List (Nat × Nat)) (w w2 t':Nat),Spans l sp∧sp.length≤l.length∧u=.sl 1 w2 0 1 sp.length none∧σ=⟨t',fgH w w2 l sp sp.length⟩
theorem QsH (hT:Qn Tryz.prog tab) {t':Nat} (hsp:Spans l sp) (hl:l.length≤1000000) (hsl:sp.length≤l.length) (f0:Qi fr 0=.lst 1 (Qg l) T) (f5:Qi fr 5=.sl 0 w 0 2 sp.length none) :
 W Tryz.prog G 74 0 (zg Ql5 [51,52,53] (.seq (zg Ql4 [] (.block 2 (.loop (zg QjJ [] (.seq (zw 57 .skip (.exit 2)) (.seq (.block 3 (zg QjI [58,59,60] (.reg QjH [61,62,63,64,65,66,67,68,69,70,71]))) (.reg QjG [72]))))))) (zg Ql3 [73] .ret))) fr ⟨t',[some (.arr w 121 (QfP sp))]⟩ (endK G [RV.tmp 4] (ffQ l)):=by
 refine Qh [(0,.lst 1 (Qg l) T),(5,.sl 0 w 0 2 sp.length none)] ⟨f0,f5,trivial⟩  1000 ?_
 have hrep:(List.replicate sp.length [V.lst 0 [] true]).flatten=List.replicate sp.length (V.lst 0 [] true):=by
  induction sp.length with
  | zero=>rfl
  | succ n ih=>rw [List.replicate_succ,List.flatten_cons,ih,List.replicate_succ]; rfl
 simp -implicitDefEqProofs (disch:=omega) only [go_sem,↓reduceIte,reduceCtorEq,rq,Int.toNat_natCast,hrep]
 refine Y7 sp.length (fgJ w t' l T sp) (fgE w t' l sp) ⟨t'+1,rfl,rfl,rfl,rfl,rfl,?_⟩ (fun i hi fr σ hJ=>Qus hT hsp hl (by omega) hi hJ) (fun i hi fr σ hJ=>?_) (fun e fr σ hE=>?_)
 ·simp [fgH,spC]
 ·obtain ⟨t2,g0,g10,g54,g55,g56,rfl⟩:=hJ
  subst hi
  refine Qh [(0,.lst 1 (Qg l) T),(10,.sl 1 t' 0 1 sp.length none),(54,.sl 0 w 0 2 sp.length none),(55,.int .i64 (sp.length:Int)),(56,.int .i64 (sp.length:Int))] ⟨g0,g10,g54,g55,g56,trivial⟩ 1000 ?_
  simp -implicitDefEqProofs (disch:=omega) only [go_sem,↓reduceIte,reduceCtorEq,rq,Int.lt_irrefl]
  exact ⟨rfl,t2,rfl,rfl⟩
 ·obtain ⟨rfl,t2,f10,rfl⟩:=hE
  refine QO [(10,.sl 1 t' 0 1 sp.length none)] ⟨f10,trivial⟩ 1000 ?_
  simp -implicitDefEqProofs (disch:=omega) only [go_sem,↓reduceIte,rq]
  exact ⟨sp,w,t',t2,hsp,hsl,rfl,rfl⟩
theorem QbJ (ws:List (List UInt8)):Qd (ZW ws)=true:=by
 have:Qb (ws.map QjC)=true:=XW fun u hu=>by
  obtain ⟨w,_,rfl⟩:=List.mem_map.1 hu
  simp [QjC,Qd]
 simp [ZW,Qd]
theorem QlM (hT:Qn Tryz.prog tab) (h1:G 7=some (Qdk .u8 u8T)) (h2:G 8=some (Qdk .u8 accT)) (hw:WsOk G) (l:List UInt8) (T:Bool) (hl:l.length≤1000000) :
 Am.Pure Tryz.prog G Qbu [.lst 1 (Qg l) T,.fn (.func Q8) [] []] fun u=>∃ ws,ws.length≤l.length∧(∀ w∈ws,w.length≤l.length)∧u=ZW ws:=by
 intro t
 refine Xa 0 (zL _) (QfG (Q:=fun u _=>∃ ws:List (List UInt8),ws.length≤l.length∧(∀ w∈ws,w.length≤l.length)∧u=.lst 1 (ws.map fun w=>.lst 1 (Qg w) true) false) (Y6 (Q:=ffQ l) ?_ fun u σ hu=>?_) fun u σ hu=>?_)
 ·refine QM hT Qbp (by simp [Yt]) (Qx 1000 ?_)
  simp -implicitDefEqProofs (disch:=omega) only [go_sem,↓reduceIte,reduceCtorEq,rq,Int.reduceToNat,Int.reduceLE]
  refine QX (m0:=l.length) (ffJ l T) (ffE l T) ⟨0,-1,[],t,t+1,by omega,rfl,(fun p hp=>by simp at hp),.inl ⟨rfl,by simp⟩,rfl,rfl,rfl,rfl,rfl,rfl⟩ (fun m fr σ hJ=>Qut hT h1 h2 hw hl hJ) (fun e fr σ hE=>?_)
  obtain ⟨rfl,i,st,sp,w,t',hi,hsp,hst,f0,f1,f5,f6,f7,rfl⟩:=hE
  refine QO [(0,.lst 1 (Qg l) T),(1,.fn (.func Q8) [] []),(5,.sl 0 w 0 2 sp.length none),(6,.int .i64 st),(7,.int .i64 (i:Int))] ⟨f0,f1,f5,f6,f7,trivial⟩ 8 ?_
  rcases hst with ⟨rfl,hs1⟩ | ⟨hs0,hs1,hs2⟩
  ·have n1:¬ (0:Int)≤-1:=by decide
   simp -implicitDefEqProofs (disch:=omega) only [go_sem,↓reduceIte,reduceCtorEq,rq,n1]
   exact QsH hT hsp hl (by omega) rfl rfl
  ·have hcl:=QhI sp
   obtain ⟨sn,rfl⟩:∃ sn:Nat,st=(sn:Int):=⟨st.toNat,by omega⟩
   simp -implicitDefEqProofs (disch:=omega) only [go_sem,↓reduceIte,reduceCtorEq,rq,hs0]
   refine Qc 9 ?_
   simp -implicitDefEqProofs (disch:=omega) only [go_sem,↓reduceIte,reduceCtorEq,rA,rq,rL]
   rw [Qjc]
   exact QsH (sp:=sp++[(sn,l.length)]) hT (hsp.snoc (by omega) (lR _)) hl (by simp; omega) rfl (by simp; rfl)
 ·obtain ⟨sp,w,w2,t',hsp,hsl,rfl,rfl⟩:=hu
  have hc:spC ((sp.take sp.length).map (Qbk l)) (sp.length - sp.length)=(sp.map (Qbk l)).map fun w=>V.lst 1 (Qg w) true:=by
   simp [spC]
  have hlen:((sp.map (Qbk l)).map fun w=>V.lst 1 (Qg w) true).length=sp.length:=by simp
  have hcl:∀ u∈(sp.map (Qbk l)).map fun w=>V.lst 1 (Qg w) true,u.cells=[u]:=fun u hu=>by
   obtain ⟨w,_,rfl⟩:=List.mem_map.1 hu
   rfl
  have hf:=Qez (k:=1) (w:=w2) (sz:=1) hcl
  rw [hlen] at hf
  refine .inr ⟨1,w2,25,_,zL _,by simp only [fgH,hc]; rfl,XW fun u hu=>by
   obtain ⟨w,_,rfl⟩:=List.mem_map.1 hu
   simp [Qd],sp.map (Qbk l),by simpa using hsl,fun w hw=>by
    obtain ⟨p,hp,rfl⟩:=List.mem_map.1 hw
    have:=hsp p hp
    simp [Qbk]; omega,hf⟩
 ·obtain ⟨ws,h1,h2,rfl⟩:=hu
  refine ⟨ZW ws,.lst 1 1 _ _ false (WkL.map fun w _=>.lst 1 1 _ _ true (.refl _) (.inr rfl)) (.inr rfl),?_⟩
  exact ⟨zL _,QbJ ws,ws,h1,h2,rfl⟩
end
section
attribute [local go_sem] nFq lR Nat.mul_one zA and_true Xu Qad zqq_0 zqq_1 QkJ QkI Qvi Qvh Qvg Qvf Qve Qvd Qnl Qnk zqq_2 Qvc Qnj Qni Qnh Qng Qnf Qne QkH QkG Qnd zqq_3 Qvb Qva Qu9 zqq_4 Qpq Qpp Qpo Qpn Qpm decide_false decide_true ge_iff_le Qt QhJ true_and
structure QuU (G:Nat→Option V):Prop where
 sp:G 0=some (Qdk .u8 spT)
 u8:G 7=some (Qdk .u8 u8T)
 ac:G 8=some (Qdk .u8 accT)
 ws:WsOk G
def Fld (l:List UInt8) (ws:List (List UInt8)):Prop:=ws.length≤l.length∧(∀ w∈ws,w.length≤l.length)∧((∀ b∈l,b.toNat<128)→ws=Qaf [] l)
theorem QuM (hT:Qn Tryz.prog tab) (X:QuU G) (l:List UInt8) (T:Bool) (hl:l.length≤1000000):Am.Pure Tryz.prog G Qew [.lst 1 (Qg l) T] fun u=>∃ ws,Fld l ws∧u=ZW ws:=by
 have hF:=QlM (G:=G) hT X.u8 X.ac X.ws l T hl
 have hn:=Qhd l []
 simp only [decide_true,if_true,aZ] at hn
 have hn2:=QsE l
 intro t
 refine Xa 0 (zL _) (QfG (Q:=fun u _=>Qd u=true∧∃ ws,Fld l ws∧Wk u (ZW ws)) (Y6 (Q:=fun u σ=>(Qd u=true∧∃ ws,Fld l ws∧Wk u (ZW ws))∨∃ w t',u=.sl 0 w 0 1 (Qaf [] l).length none∧σ=⟨t',[some (.arr w 25 (spC (Qaf [] l) 0))]⟩) ?_ fun u σ hu=>?_) fun u σ hu=>?_)
 ·refine QM hT Qes (by simp [Qad]) (Qx 1000 ?_)
  simp -implicitDefEqProofs (disch:=omega) only [go_sem,↓reduceIte,reduceCtorEq,rq]
  refine Y7 l.length (f0J t l T) (fun e fr σ=>e=.ex 0∧∃ (sb:Int),((∀ b∈l,b.toNat<128)→0≤sb∧sb<128)∧Qi fr 0=.lst 1 (Qg l) T∧Qi fr 3=.int .i64 (QcP true l:Nat)∧Qi fr 5=.int .u8 sb∧σ=⟨t,[]⟩) ⟨0,true,0,by simp,by omega,fun _=>⟨by omega,by omega⟩,rfl,rfl,rfl,rfl,rfl,rfl⟩ (fun i hi fr σ hJ=>Quy hT X.sp hl hi hJ) (fun i hi fr σ hJ=>?_) (fun e fr σ hE=>?_)
  ·obtain ⟨n,sp,sb,hn1,_,hsb,f0,f3,f4,f5,f6,rfl⟩:=hJ
   subst hi
   simp only [List.drop_length,QcP,aZ] at hn1
   subst hn1
   refine Qh [(0,.lst 1 (Qg l) T),(3,.int .i64 (QcP true l:Nat)),(4,.int .i64 (spI sp)),(5,.int .u8 sb),(6,.int .i64 (l.length:Int))] ⟨f0,f3,f4,f5,f6,trivial⟩ 1000 ?_
   simp -implicitDefEqProofs (disch:=omega) only [go_sem,↓reduceIte,reduceCtorEq,rq,Int.lt_irrefl]
   exact ⟨sb,hsb,rfl⟩
  ·obtain ⟨rfl,sb,hsb,f0,f3,f5,rfl⟩:=hE
   rw [← hn] at f3
   refine QO [(0,.lst 1 (Qg l) T),(3,.int .i64 ((Qaf [] l).length:Nat)),(5,.int .u8 sb)] ⟨f0,f3,f5,trivial⟩ 6 ?_
   by_cases g:(128:Int)≤sb
   ·simp -implicitDefEqProofs (disch:=omega) only [go_sem,↓reduceIte,reduceCtorEq,rq,g]
    refine Qc 1000 ?_
    simp -implicitDefEqProofs (disch:=omega) only [go_sem,↓reduceIte,reduceCtorEq,rq]
    refine Qcc hT Qbp hF (by simp [Qb,Qd]) 1000 fun u hu=>?_
    obtain ⟨ws,h1,h2,rfl⟩:=hu
    simp -implicitDefEqProofs (disch:=omega) only [go_sem,↓reduceIte,reduceCtorEq,rq]
    exact .inl ⟨QbJ ws,ws,⟨h1,h2,fun h=>by have:=(hsb h).2; omega⟩,.refl _⟩
   ·simp -implicitDefEqProofs (disch:=omega) only [go_sem,↓reduceIte,reduceCtorEq,rq,g]
    have hrep:(List.replicate (Qaf [] l).length [V.lst 0 [] true]).flatten=spC [] ((Qaf [] l).length - 0):=by
     simp only [spC,List.map_nil,nAq,Nat.sub_zero]
     induction (Qaf [] l).length with
     | zero=>rfl
     | succ n ih=>rw [List.replicate_succ,List.flatten_cons,ih,List.replicate_succ]; rfl
    refine Qc 1000 ?_
    simp -implicitDefEqProofs (disch:=omega) only [go_sem,↓reduceIte,reduceCtorEq,rq,Int.toNat_natCast,hrep]
    refine QX (fkJ t l T (Qaf [] l).length 0 [] 0) (fkE 2 t l T (Qaf [] l).length 0 [] 0) (m0:=l.length) ⟨0,by omega,rfl,lR _,rfl,rfl,rfl,rfl,rfl,rfl⟩ (fun m fr σ hJ=>Qux hT X.sp hl hJ) (fun e fr σ hE=>?_)
    obtain ⟨rfl,j,hj,_,hdj,hspj,g0,g9,g10,g12,rfl⟩:=hE
    refine QO [(0,.lst 1 (Qg l) T),(9,.sl 0 t 0 1 (Qaf [] l).length none),(10,.int .i64 ((0:Nat):Int)),(12,.int .i64 (j:Int))] ⟨g0,g9,g10,g12,trivial⟩ 1000 ?_
    simp -implicitDefEqProofs (disch:=omega) only [go_sem,↓reduceIte,reduceCtorEq,rq]
    refine QX (f2J t l T (Qaf [] l).length) (f2E t l T (Qaf [] l).length) (m0:=l.length - j) ⟨j,j,0,[],hj,rfl,lR _,rfl,?_,fun _=>hspj,rfl,rfl,rfl,rfl,rfl,rfl⟩ (fun m fr σ hJ=>Quw hT X.sp rfl hl hJ) (fun e fr σ hE=>?_)
    ·rw [show (l.take j).drop j=[] by simp]; exact hdj
    ·obtain ⟨rfl,i,fs,na,d,hi,hfs,hdl,hd,k0,k9,k10,k11,k12,rfl⟩:=hE
     subst hi
     rw [List.take_length,List.drop_length,Qaf] at hd
     refine QO [(0,.lst 1 (Qg l) T),(9,.sl 0 t 0 1 (Qaf [] l).length none),(10,.int .i64 (na:Int)),(11,.int .i64 (fs:Int)),(12,.int .i64 (l.length:Int))] ⟨k0,k9,k10,k11,k12,trivial⟩ 1000 ?_
     rcases Nat.lt_or_ge fs l.length with h | h
     ·have hlt:(fs:Int)<(l.length:Int):=by omega
      have hcur:l.drop fs≠[]:=fun e=>by
       have:=congrArg List.length e
       simp at this; omega
      rw [if_neg hcur] at hd
      have hle:=congrArg List.length hd
      rw [lAq,List.length_singleton] at hle
      have hk:(Qaf [] l).length - na=0+1:=by omega
      have hx:V.lst 1 (List.take (l.length - fs) (List.drop fs (Qg l))) true=V.lst 1 (Qg (l.drop fs)) true:=by
       rw [ZV,YM,List.take_of_length_le (by simp)]
      have hput:=QjQ hdl (l.drop fs) 0 _ hx
      have hna:na+1≤d.length+(0+1):=by omega
      rw [hk]
      simp -implicitDefEqProofs (disch:=omega) only [go_sem,↓reduceIte,reduceCtorEq,rq,hlt,hfs,hput,hna]
      exact ⟨t,t+1,rfl,rfl,by rw [hd]⟩
     ·have hlt:¬ (fs:Int)<(l.length:Int):=by omega
      rw [if_pos (by rw [List.drop_eq_nil_of_le h]),List.append_nil] at hd
      simp -implicitDefEqProofs (disch:=omega) only [go_sem,↓reduceIte,reduceCtorEq,rq,hlt]
      exact ⟨t,t+1,rfl,rfl,by rw [hd,← hdl,hd,Nat.sub_self]⟩
 ·rcases hu with ⟨h1,ws,h2,h3⟩ | ⟨w,t',rfl,rfl⟩
  ·exact .inl ⟨h1,ws,h2,h3⟩
  ·have hc:spC (Qaf [] l) 0=(Qaf [] l).map fun w=>V.lst 1 (Qg w) true:=by simp [spC]
   have hlen:((Qaf [] l).map fun w=>V.lst 1 (Qg w) true).length=(Qaf [] l).length:=by simp
   have hcl:∀ u∈(Qaf [] l).map fun w=>V.lst 1 (Qg w) true,u.cells=[u]:=fun u hu=>by
    obtain ⟨w,_,rfl⟩:=List.mem_map.1 hu
    rfl
   have hnl:Qb ((Qaf [] l).map fun w=>V.lst 1 (Qg w) true)=true:=XW fun u hu=>by
    obtain ⟨w,_,rfl⟩:=List.mem_map.1 hu
    simp [Qd]
   have hf:=Qez (k:=0) (w:=w) (sz:=1) hcl
   rw [hlen] at hf
   refine .inr ⟨0,w,25,_,zL _,by simp only [hc]; rfl,hnl,?_,Qaf [] l,⟨hn2,fun w hw=>by have:=QdZ l [] w hw; simpa using this,fun _=>rfl⟩,?_⟩
   ·rw [hf]; simp [Qd]
   ·rw [hf]; exact .lst 1 1 _ _ false (WkL.map fun w _=>.lst 1 1 _ _ true (.refl _) (.inr rfl)) (.inr rfl)
 ·obtain ⟨hn,ws,hw,hk⟩:=hu
  exact ⟨ZW ws,hk,zL _,QbJ ws,ws,hw,rfl⟩
end
end Go.Proofs.YtingdebioipemaaGreatDoor
namespace Go.Proofs.YtingdebioipemaaGreatDoor
open Go Go.Am Go.Cl Go.Ct Go.RowKit
set_option maxRecDepth 100000
variable {G:Nat→Option V}
structure Qtp (P:Program):Prop where
 ok:∀ (s:ByteArray) (v:Int) (w:World),s.size≤9223372036854775806→Lib.atoiAll s.data.toList=.ok v→Calls P Y1 #[.string s] w fun e w'=>e=.returned (.tuple #[.int .i64 v,.nilIface])∧(w'=w∨∃ t,w'=Lib.bytesWorld w 5 t)
 syn:∀ (s:ByteArray) (t:TypeId) (p:Value) (w:World),s.size≤281474976710656→(∀ v,Lib.atoiAll s.data.toList≠.ok v)→Lib.atoiAll s.data.toList≠.range→w.cell? ⟨4,0,none⟩=some (.iface t p)→Calls P Y1 #[.string s] w fun e w'=>∃ T p,e=.returned (.tuple #[.int .i64 0,.iface T p])∧Below w.heap.size w w'
 rng:∀ (s:ByteArray) (t:TypeId) (p:Value) (w:World),s.size≤281474976710656→Lib.atoiAll s.data.toList=.range→w.cell? ⟨5,0,none⟩=some (.iface t p)→Calls P Y1 #[.string s] w fun e w'=>∃ T p,e=.returned (.tuple #[.int .i64 (Lib.atoiSat s.data.toList),.iface T p])∧Below w.heap.size w w'
structure Qtm (G:Nat→Option V):Prop where
 syn:∃ t,G 4=some (.iface t .any)
 rng:∃ t,G 5=some (.iface t .any)
def AtoiQ (s:List UInt8) (u:V):Prop:=∃ (n:Int) (e:V),u=.tup [.int .i64 n,e]∧(-9223372036854775808≤n∧n≤9223372036854775807)∧(e=.val .nilIface∨∃ T,e=.iface T .any)∧∀ m,Lib.atoiAll s=.ok m→n=m∧e=.val .nilIface
variable {w:World}
theorem Qj8 {w':World} (h:Below w.heap.size w w'):Ex w w':=⟨h.os,h.tape,h.output,h.size,h.block⟩
theorem Quz (w:World) (e:TypeId) (s:ByteArray):Ex w (Lib.bytesWorld w e s):=by
 refine ⟨rfl,rfl,rfl,?_,fun b hb=>?_⟩
 ·unfold Lib.bytesWorld; simp [World.freeze]
 ·show (((w.drew.alloc _).heap.modify w.heap.size _)[b]?)=_
  rw [Array.getElem?_modify,if_neg (by omega)]
  show (w.heap.push _)[b]?=_
  rw [Array.getElem?_push_lt hb,Array.getElem?_eq_getElem hb]
variable {I:Imm}
theorem QrJ {n:Int} {e:V} {x:Value} (h:VR I noNames e x):VR I noNames (.tup [.int .i64 n,e]) (.tuple #[.int .i64 n,x]) :=
 .tup _ _ _ rfl fun j v y h1 h2=>by
  match j,h1,h2 with
  | 0,h1,h2=>cases h1; cases h2; exact .int _ _ _
  | 1,h1,h2=>cases h1; cases h2; exact h
theorem Qn5 {t:TypeId} {g:Nat} (hv:VR I noNames (.ref (.iface t .any) 0) (.pointer (some ⟨g,0,none⟩))) (hI:∀ b o x,I b o=some x→w.cell? ⟨b,o,none⟩=some x):∃ p,w.cell? ⟨g,0,none⟩=some (.iface t p):=by
 generalize hp:Value.pointer (some ⟨g,0,none⟩)=p at hv
 cases hv with
 | ref _ _ _ b o f g1 g2 =>
   simp only [Value.pointer.injEq,Option.some.injEq,Addr.mk.injEq,aZ] at hp
   obtain ⟨rfl,rfl,_⟩:=hp
   have e1:=hI _ _ _ (g1 0 _ rfl)
   have e2:=g2 0 _ rfl
   generalize f 0=y at e1 e2
   cases e2 with
   | iface _ _ _ y _=>exact ⟨y,by simpa using e1⟩
theorem Qzc (K:Qtp Tryz.prog) (E:Qtm G) (s:List UInt8) (hs:s.length≤1000000):Am.Pure Tryz.prog G Y1 [.str s] (AtoiQ s):=by
 obtain ⟨t1,h1⟩:=E.syn
 obtain ⟨t2,h2⟩:=E.rng
 refine QaC (fun I w xs hV hI hc=>?_) rfl
 obtain ⟨p1,c1⟩:=Qn5 (hV _ _ h1).1 hI
 obtain ⟨p2,c2⟩:=Qn5 (hV _ _ h2).1 hI
 have hx:xs=#[.string ⟨s.toArray⟩]:=by
  have hx1:xs.size=1:=hc.1.symm
  apply Array.ext
  ·simp [hx1]
  ·intro j hj hj'
   have:j=0:=by omega
   subst this
   have:=hc.2 0 _ xs[0] rfl (Array.getElem?_eq_getElem hj)
   generalize xs[0]=y at this
   cases this; rfl
 subst hx
 have hsz:(ByteArray.mk s.toArray).size=s.length:=rfl
 cases ha:Lib.atoiAll s with
 | ok v =>
   refine (K.ok ⟨s.toArray⟩ v w (by rw [hsz]; omega) (by simpa using ha)).mono fun e w' ⟨he,hw⟩=>?_
   refine ⟨.tup [.int .i64 v,.val .nilIface],_,he,QrJ (.val _ _),rfl,⟨v,.val .nilIface,rfl,Lib.atoiAll_bounds ha,.inl rfl,fun m hm=>by rw [hm] at ha; cases ha; exact ⟨rfl,rfl⟩⟩,?_⟩
   rcases hw with rfl | ⟨t,rfl⟩
   ·exact Ex.refl _
   ·exact Quz _ _ _
 | range =>
   refine (K.rng ⟨s.toArray⟩ t2 p2 w (by rw [hsz]; omega) (by simpa using ha) c2).mono fun e w' ⟨T,p,he,hw⟩=>?_
   refine ⟨.tup [.int .i64 _,.iface T .any],_,he,QrJ (.iface _ _ _ _ (.any _ _)),rfl,⟨_,.iface T .any,rfl,?_,.inr ⟨T,rfl⟩,fun m hm=>by rw [hm] at ha; cases ha⟩,Qj8 hw⟩
   unfold Lib.atoiSat
   split <;> omega
 | _ =>
   refine (K.syn ⟨s.toArray⟩ t1 p1 w (by rw [hsz]; omega) (by simp [ha]) (by simp [ha]) c1).mono fun e w' ⟨T,p,he,hw⟩=>?_
   exact ⟨.tup [.int .i64 0,.iface T .any],_,he,QrJ (.iface _ _ _ _ (.any _ _)),rfl,⟨0,.iface T .any,rfl,by omega,.inr ⟨T,rfl⟩,fun m hm=>by rw [hm] at ha; cases ha⟩,Qj8 hw⟩
end Go.Proofs.YtingdebioipemaaGreatDoor
namespace Go.Proofs.YtingdebioipemaaGreatDoor
open Go Go.Am Go.Cl Go.Ct
set_option maxRecDepth 100000
def Qiw (v:Int) (F:List (List Int)):List UInt8:=[112,32,99,110,102,32]++Qw v++[32]++Qw F.length
def Qfc (c:List Int):List UInt8:=Zt c++[48]
def Sml (n:Int):Prop:=-16777216≤n∧n≤16777216
variable {n v:Int}
theorem Qhc (h:Sml n):Qw n=Lib.itoa n:=by
 unfold Qw; unfold Sml at h; rw [if_pos (by omega)]
variable {b:UInt8}
theorem Yo (h:Sml n) (hb:b∈Qw n):isSp b=false∧b≠10∧b≠32∧b.toNat<128:=Qsg (QoO n b (Qhc h▸hb))
theorem QyR (h:Sml n):Qw n≠[]:=by rw [Qhc h]; exact QAK n
theorem Qhh (h:Sml n):Lib.atoiAll (Qw n)=.ok n:=by
 rw [Qhc h]; unfold Sml at h; exact Qta (by omega)
variable {F:List (List Int)}
theorem XQ (h:right v F=true):Sml v∧Sml F.length∧∀ c∈F,∀ n∈c,n≠0∧Sml n:=by
 have hr:=Xh.1 h
 have h1:=hr.1
 unfold Sml
 refine ⟨by omega,by omega,fun c hc n hn=>?_⟩
 have:=hr.2 c hc n hn
 omega
theorem QAp (v:Int) (F:List (List Int)):QbU v F=Qiw v F++10::(F.map fun c=>Qfc c++[10]).flatten:=by
 unfold QbU Zh clB Qiw Qfc
 simp
variable {c:List Int}
theorem QoK (h:∀ n∈c,Sml n) (hb:b∈Zt c):b≠10∧b.toNat<128:=by
 unfold Zt at hb
 obtain ⟨x,hx,hb⟩:=List.mem_flatten.1 hb
 obtain ⟨n,hn,rfl⟩:=List.mem_map.1 hx
 rcases List.mem_append.1 hb with hb | hb
 ·have:=Yo (h n hn) hb; exact ⟨this.2.1,this.2.2.2⟩
 ·rw [List.mem_singleton] at hb; subst hb; decide
theorem Qjk (h:∀ n∈c,Sml n) (hb:b∈Qfc c):b≠10∧b.toNat<128:=by
 rcases List.mem_append.1 hb with hb | hb
 ·exact QoK h hb
 ·rw [List.mem_singleton] at hb; subst hb; decide
theorem QhG:∀ {F:List (List Int)},(∀ c∈F,∀ n∈c,Sml n)→splitB 10 (F.map fun c=>Qfc c++[10]).flatten=F.map Qfc++[[]]
 | [],_=>rfl
 | c::F,h=>by
   rw [List.map_cons,List.flatten_cons,aA,List.singleton_append,ZQ (fun b hb=>(Qjk (h c (by simp)) hb).1),QhG (fun c hc=>h c (by simp [hc]))]
   rfl
theorem QoQ (hv:Sml v) (hF:Sml F.length) (hb:b∈Qiw v F):b≠10:=by
 unfold Qiw at hb
 rcases List.mem_append.1 hb with hb | hb
 ·rcases List.mem_append.1 hb with hb | hb
  ·rcases List.mem_append.1 hb with hb | hb
   ·have:∀ b∈[112,32,99,110,102,32],b≠(10:UInt8):=by decide
    exact this b hb
   ·exact (Yo hv hb).2.1
  ·rw [List.mem_singleton] at hb; subst hb; decide
 ·exact (Yo hF hb).2.1
theorem QhM (h:right v F=true):splitB 10 (QbU v F)=Qiw v F::(F.map Qfc++[[]]):=by
 obtain ⟨h1,h2,h3⟩:=XQ h
 rw [QAp,ZQ (fun b hb=>QoQ h1 h2 hb),QhG fun c hc n hn=>(h3 c hc n hn).2]
theorem Qjn (h:right v F=true):splitB 32 (Qiw v F)=[[112],[99,110,102],Qw v,Qw F.length]:=by
 obtain ⟨h1,h2,_⟩:=XQ h
 have e:Qiw v F=[112]++32::([99,110,102]++32::(Qw v++32::Qw F.length)):=by unfold Qiw; simp
 rw [e,ZQ (by decide),ZQ (by decide),ZQ (fun b hb=>(Yo h1 hb).2.2.1),QeD (fun b hb=>(Yo h2 hb).2.2.1)]
theorem Qn1:∀ {c:List Int},(∀ n∈c,Sml n)→Qaf [] (Qfc c)=(c++[0]).map Qw
 | [],_=>by rw [nAq,List.map_singleton,Qhb]; rfl
 | n::c,h=>by
   have e:Qfc (n::c)=Qw n++32::Qfc c:=by unfold Qfc Zt; simp
   have hn:Sml n:=h n (by simp)
   rw [e,QsD (QyR hn) (fun b hb=>(Yo hn hb).1) (by decide),Qn1 (fun n hn=>h n (by simp [hn]))]
   rfl
def Good (b:List UInt8) (v:Int) (F:List (List Int)):Prop:=right v F=true∧QbU v F=b
def wD (cur:List UInt8):List UInt8→List (List UInt8)
 | []=>[]
 | b::r=>if b=32∨b=10 then cur::wD [] r else wD (cur++[b]) r
theorem QrE:∀ {x:List UInt8} (cur:List UInt8) {r:List UInt8},(∀ b∈x,b≠32∧b≠10)→wD cur (x++r)=wD (cur++x) r
 | [],cur,r,_=>by simp
 | b::x,cur,r,h=>by
   have hb:=h b (by simp)
   rw [cAq,wD,if_neg (by simp [hb.1,hb.2]),QrE (cur++[b]) (fun b hb=>h b (by simp [hb]))]
   simp
theorem QfL {x r:List UInt8} (h:∀ b∈x,b≠32∧b≠10) (hb:b=32∨b=10):wD [] (x++b::r)=x::wD [] r:=by
 rw [QrE [] h,nAq,wD,if_pos hb]
theorem QAb (h:∀ n∈c,Sml n) (r:List UInt8):wD [] (Zt c++48::10::r)=(c++[0]).map Qw++wD [] r:=by
 induction c with
 | nil =>
   have e:([48]:List UInt8)++10::r=Zt []++48::10::r:=by simp [Zt]
   rw [← e,QfL (by decide) (.inr rfl),nAq,List.map_singleton,Qhb]
   rfl
 | cons n c ih =>
   have hn:Sml n:=h n (by simp)
   have e:Zt (n::c)++48::10::r=Qw n++32::(Zt c++48::10::r):=by unfold Zt; simp
   rw [e,QfL (fun b hb=>⟨(Yo hn hb).2.2.1,(Yo hn hb).2.1⟩) (.inl rfl),ih (fun n hn=>h n (by simp [hn]))]
   rfl
def QbA (F:List (List Int)):List Int:=(F.map fun c=>c++[0]).flatten
theorem wD_cl:∀ {F:List (List Int)},(∀ c∈F,∀ n∈c,Sml n)→wD [] (clB F)=(QbA F).map Qw
 | [],_=>rfl
 | c::F,h=>by
   have e:clB (c::F)=Zt c++48::10::clB F:=by unfold clB; simp
   rw [e,QAb (h c (by simp)),wD_cl (fun c hc=>h c (by simp [hc]))]
   simp [QbA]
theorem Qdp (h:right v F=true):wD [] (QbU v F)=[112]::[99,110,102]::Qw v::Qw F.length::(QbA F).map Qw:=by
 obtain ⟨h1,h2,h3⟩:=XQ h
 have e:QbU v F=[112]++32::([99,110,102]++32::(Qw v++32::(Qw F.length++10::clB F))):=by unfold QbU Zh; simp
 rw [e,QfL (by decide) (.inl rfl),QfL (by decide) (.inl rfl),QfL (fun b hb=>⟨(Yo h1 hb).2.2.1,(Yo h1 hb).2.1⟩) (.inl rfl),QfL (fun b hb=>⟨(Yo h2 hb).2.2.1,(Yo h2 hb).2.1⟩) (.inr rfl),wD_cl fun c hc n hn=>(h3 c hc n hn).2]
variable {G:Nat→Option V}
section
attribute [local go_sem] nFq nT lM lR Nat.mul_one Nat.one_mul zA zL and_true Qhu Qht Qhs Qhr Qhq Qhp Qho decide_false decide_true Qe Qt true_and true_implies
def ErrV (e:V):Prop:=e=.val .nilIface∨∃ T,e=.iface T .any
def QA3 (en e:V):V:=match en with
 | .iface t x=>.iface t x
 | _=>e
def NumI (ws:List (List UInt8)) (e0:V) (j:Nat) (cs:List Int) (e:V):Prop:=cs.length=j∧ErrV e∧∀ ns:List Int,(∀ n∈ns,Sml n)→ws=ns.map Qw→cs=ns.take j∧e=e0
def Qip (L w:Nat):List Int→V
 | []=>.lst 0 [] true
 | n::c=>.sl L w 0 1 (n::c).length none
def Qit (w:Nat):List Int→List (Option Ob)
 | []=>[]
 | n::c=>[some (.arr w 3 (ints (n::c)))]
theorem Qdr (L w:Nat) (cs:List Int) (n:Int):Qip L w (cs++[n])=.sl L w 0 1 (cs.length+1) none:=by
 cases cs <;> simp [Qip]
theorem Qds (w:Nat) (cs:List Int) (n:Int):Qit w (cs++[n])=[some (.arr w 3 (ints cs++[.int .i64 n]))]:=by
 cases cs <;> simp [Qit,ints]
abbrev giJ (o0:List (Option Ob)) (v0 v1:Nat) (x0 x42 x43 x44 e0:V) (ws:List (List UInt8)):Nat→Fr→H→Prop:=fun j fr σ=>∃ (cs:List Int) (e:V) (w t:Nat),NumI ws e0 j cs e∧Qi fr 0=x0∧Qi fr 2=.ptr 0 v0 0∧Qi fr 7=e∧Qi fr 8=.ptr 1 v1 0∧Qi fr 11=Qip o0.length w cs∧Qi fr 42=x42∧Qi fr 43=x43∧Qi fr 44=x44∧Qi fr 49=ZW ws∧Qi fr 50=.int .i64 (ws.length:Int)∧Qi fr 51=.int .i64 (j:Int)∧σ=⟨t,o0++Qit w cs⟩
abbrev giE (o0:List (Option Ob)) (v0 v1:Nat) (x0 x42 x43 x44 e0:V) (ws:List (List UInt8)):AE→Fr→H→Prop:=fun e fr σ=>e=.ex 2∧giJ o0 v0 v1 x0 x42 x43 x44 e0 ws ws.length fr σ
variable {σ:H} {fr:Fr} {ws:List (List UInt8)} {x0 x42 x43 x44 e0:V} {v0 v1:Nat} {o0:List (Option Ob)}
theorem Quj (hT:Qn Tryz.prog tab) (K:Qtp Tryz.prog) (Er:Qtm G) (hl:ws.length≤1000) (hw:∀ w∈ws,w.length≤1000) {j:Nat} (hj:j<ws.length) (hJ:giJ o0 v0 v1 x0 x42 x43 x44 e0 ws j fr σ) :
 W Tryz.prog G 112 0 wi fr σ (ZB (fun fr σ=>∃ fr' σ',Shift G 112 0 fr σ fr' σ'∧giJ o0 v0 v1 x0 x42 x43 x44 e0 ws (j+1) fr' σ') (giE o0 v0 v1 x0 x42 x43 x44 e0 ws)):=by
 obtain ⟨cs,e,w,t,⟨hcl,hev,hns⟩,f0,f2,f7,f8,f11,f42,f43,f44,f49,f50,f51,rfl⟩:=hJ
 have hlt:(j:Int)<(ws.length:Int):=by omega
 have e2:=YR hj (by omega)
 have hat:(ws.map QjC).getD j .any=QjC ws[j]:=by simp [List.getD_eq_getElem?_getD,List.getElem?_eq_getElem hj]
 have hA:=Qzc (G:=G) K Er ws[j] (by have:=hw ws[j] (List.getElem_mem hj); omega)
 have hby:=Yg ws[j]
 have hof:=Zy ws[j]
 have hfl:=Yf ws[j]
 simp only [QjC] at hat
 refine Qh [(0,x0),(2,.ptr 0 v0 0),(7,e),(8,.ptr 1 v1 0),(11,Qip o0.length w cs),(42,x42),(43,x43),(44,x44),(49,ZW ws),(50,.int .i64 (ws.length:Int)),(51,.int .i64 (j:Int))] ⟨f0,f2,f7,f8,f11,f42,f43,f44,f49,f50,f51,trivial⟩  1000 ?_
 simp -implicitDefEqProofs (disch:=omega) only [go_sem,↓reduceIte,reduceCtorEq,rq,hlt,hj,hat,ZW]
 have key:∀ (n:Int) (en:V),(en=.val .nilIface∨∃ T,en=.iface T .any)→(∀ m,Lib.atoiAll ws[j]=.ok m→n=m∧en=.val .nilIface)→NumI ws e0 (j+1) (cs++[n]) (QA3 en e):=fun n en he hm=>by
  refine ⟨by simp [hcl],?_,fun ns hs hwn=>?_⟩
  ·rcases he with rfl | ⟨T,rfl⟩
   ·exact hev
   ·exact .inr ⟨T,rfl⟩
  ·obtain ⟨h1,h2⟩:=hns ns hs hwn
   have hjn:j<ns.length:=by have:=congrArg List.length hwn; simp at this; omega
   have hwj:ws[j]=Qw ns[j]:=by simp [hwn]
   have:=hm ns[j] (by rw [hwj]; exact Qhh (hs _ (List.getElem_mem hjn)))
   rw [this.2,this.1,h1,List.take_add_one,List.getElem?_eq_getElem hjn]
   exact ⟨rfl,h2⟩
 simp only [evW]
 simp -implicitDefEqProofs (disch:=omega) only [go_sem,↓reduceIte,reduceCtorEq,rq,hfl,hof]
 refine Qcc hT Qer hA rfl 1000 fun u hu=>?_
 obtain ⟨n,en,rfl,_,hen,hm⟩:=hu
 have hk:=key n en hen hm
 rcases hen with rfl | ⟨T,rfl⟩
 ·simp only [QA3] at hk
  cases cs with
  | nil =>
    simp only [Qip,Qit,List.append_nil]
    simp -implicitDefEqProofs (disch:=omega) only [go_sem,↓reduceIte,reduceCtorEq,rA,rq,rL,rT,e2]
    exact ⟨_,_,Shift.refl _ _ _ _,[n],_,t,t+1,hk,rfl,rfl,rfl,rfl,rfl,rfl,rfl,rfl,rfl,rfl,rfl,rfl⟩
  | cons n0 c =>
    simp only [Qip,Qit]
    simp -implicitDefEqProofs (disch:=omega) only [go_sem,↓reduceIte,reduceCtorEq,rA,rq,rL,rT,List.getElem?_concat_length,e2]
    have hcl2:c.length+1=j:=hcl
    refine ⟨⟨by omega,by omega⟩,_,_,Shift.refl _ _ _ _,(n0::c)++[n],_,t,t+1,hk,rfl,rfl,rfl,rfl,by rw [Qdr]; rfl,rfl,rfl,rfl,rfl,rfl,rfl,?_⟩
    rw [QdS,Qds]
 ·simp only [QA3] at hk
  cases cs with
  | nil =>
    simp only [Qip,Qit,List.append_nil]
    simp -implicitDefEqProofs (disch:=omega) only [go_sem,↓reduceIte,reduceCtorEq,rA,rq,rL,rT,e2]
    exact ⟨_,_,Shift.refl _ _ _ _,[n],_,t,t+1,hk,rfl,rfl,rfl,rfl,rfl,rfl,rfl,rfl,rfl,rfl,rfl,rfl⟩
  | cons n0 c =>
    simp only [Qip,Qit]
    simp -implicitDefEqProofs (disch:=omega) only [go_sem,↓reduceIte,reduceCtorEq,rA,rq,rL,rT,List.getElem?_concat_length,e2]
    have hcl2:c.length+1=j:=hcl
    refine ⟨⟨by omega,by omega⟩,_,_,Shift.refl _ _ _ _,(n0::c)++[n],_,t,t+1,hk,rfl,rfl,rfl,rfl,by rw [Qdr]; rfl,rfl,rfl,rfl,rfl,rfl,rfl,?_⟩
    rw [QdS,Qds]
theorem QAR (hT:Qn Tryz.prog tab) (hJ:giJ o0 v0 v1 x0 x42 x43 x44 e0 ws ws.length fr σ) :
 W Tryz.prog G 112 0 wi fr σ (ZB (fun _ _=>False) (giE o0 v0 v1 x0 x42 x43 x44 e0 ws)):=by
 obtain ⟨cs,e,w,t,hn,f0,f2,f7,f8,f11,f42,f43,f44,f49,f50,f51,rfl⟩:=hJ
 refine Qh [(0,x0),(2,.ptr 0 v0 0),(7,e),(8,.ptr 1 v1 0),(11,Qip o0.length w cs),(42,x42),(43,x43),(44,x44),(49,ZW ws),(50,.int .i64 (ws.length:Int)),(51,.int .i64 (ws.length:Int))] ⟨f0,f2,f7,f8,f11,f42,f43,f44,f49,f50,f51,trivial⟩ 1000 ?_
 simp -implicitDefEqProofs (disch:=omega) only [go_sem,↓reduceIte,reduceCtorEq,rq,Int.lt_irrefl]
 exact ⟨rfl,cs,e,w,t,hn,rfl,rfl,rfl,rfl,rfl,rfl,rfl,rfl,rfl,rfl,rfl,rfl⟩
end
end Go.Proofs.YtingdebioipemaaGreatDoor
