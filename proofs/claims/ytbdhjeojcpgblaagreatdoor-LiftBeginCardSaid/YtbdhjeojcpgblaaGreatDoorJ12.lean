/- Ours. -/
import Derived.Test.YtbdhjeojcpgblaaGreatDoorJ11
import Derived.Test.YtbdhjeojcpgblaaGreatDoorTabEq
import Derived.Test.YtbdhjeojcpgblaaGreatDoorJ10
import Derived.Test.YtbdhjeojcpgblaaGreatDoorTabB
import Derived.Test.YtbdhjeojcpgblaaGreatDoorAmD
import Derived.KernelRfl
import Derived.Test.YtbdhjeojcpgblaaGreatDoorY
open Nat renaming reduceEqDiff → rq, reduceAdd → rA, reduceLeDiff → rL, reduceLT → rT, zero_add → zA, le_refl → lR, zero_le → zL, add_zero → aZ
open List renaming length_cons → lC, length_nil → lN, take_succ_cons → tSq, length_append → lA, nil_append → nA, cons_append → cA, append_assoc → aA, take_nil → tN, take_zero → tZ, length_map → lM
open Bool renaming not_false → nF, not_true → nT
namespace Go.Proofs.YtbdhjeojcpgblaaGreatDoor
open Go Go.Am Go.Rv
set_option maxRecDepth 100000
variable {P:Program} {G:Nat→Option V}
section
attribute [local go_sem] nF lR zA zL decide_false decide_true ge_iff_le Qu Qbp QNl QNk QNj QNi QNh QBK QNs QNr QNq QNp QNo QcE QNg QNf QNe QNd QNc QNb QNa QM9
theorem c_fits (hT:Qf P tab) (a b c:Bool) (l:List (Nat × Nat)) (z:Nat) (sg:Bool) (m n:Int) (hl:l.length≤4) (hb:∀ p∈l,p.1≤31∧p.2≤30) (hz:z≤30) (hwd:QA l z≤60) (hn:i64 n) :
 Pure P G QdA [.agg (frm a b c l z sg m),.int .i64 n] fun v=>v=.bool (if sg then decide (n≥(0 - (2:Int) ^ QA l z).tdiv 2∧n<((2:Int) ^ QA l z).tdiv 2∧n % 2 ^ z=0) else decide (n≥0∧n<(2:Int) ^ QA l z∧n % 2 ^ z=0)):=by
 intro t
 obtain ⟨y,hy,hyl⟩:=Qep l
 have cw:=QDs (G:=G) hT a b c l z sg m hl (fun p hp=>(hb p hp).2) hz
 simp only [frm,hy] at cw
 obtain ⟨g1,g2⟩:=QcG (QA l z) 60 hwd
 obtain ⟨y1,y2⟩:=QcG z 30 hz
 have e1:min (QA l z) 64=QA l z:=by omega
 have e2:min z 64=z:=by omega
 have e3:IntKind.i64.wrap (1 * 2 ^ QA l z)=2 ^ QA l z:=by rw [Int.one_mul]; exact XU (by omega) (by omega)
 have e4:IntKind.i64.wrap (0 - 2 ^ QA l z)=0 - 2 ^ QA l z:=XU (by omega) (by omega)
 have d1:((2:Int) ^ QA l z).tdiv 2=2 ^ QA l z / 2:=Int.tdiv_eq_ediv_of_nonneg (by omega)
 have d2:(0 - (2:Int) ^ QA l z).tdiv 2=-(2 ^ QA l z / 2):=by rw [Int.zero_sub,Int.neg_tdiv,d1]
 have e5:IntKind.i64.wrap ((0 - 2 ^ QA l z:Int).tdiv 2)=(0 - 2 ^ QA l z:Int).tdiv 2:=XU (by omega) (by omega)
 have e6:IntKind.i64.wrap ((2 ^ QA l z:Int).tdiv 2)=(2 ^ QA l z:Int).tdiv 2:=XU (by omega) (by omega)
 have e7:IntKind.i64.wrap (1 * 2 ^ z)=2 ^ z:=by rw [Int.one_mul]; exact XU (by omega) (by omega)
 have e8:IntKind.i64.wrap ((2:Int) ^ z - 1)=2 ^ z - 1:=XU (by omega) (by omega)
 have e9:IntKind.i64.wrap (BitVec.ofInt 64 n &&& BitVec.ofInt 64 ((2:Int) ^ z - 1)).toNat=n % 2 ^ z:=QgC .i64 z _ _ rfl (by simp [IntKind.bits]; omega)
 refine Qi 0 (zL _) (Qk hT Qhe (by simp [Qbp]) (Qg 1000 ?_))
 simp -implicitDefEqProofs (disch:=omega) only [go_sem,↓reduceIte,reduceCtorEq,rA,rq,frm,hy]
 refine Qbe hT Qaw cw rfl 1000 fun v hv=>?_
 subst hv
 cases sg with
 | false =>
   simp -implicitDefEqProofs (disch:=omega) only [go_sem,↓reduceIte,reduceCtorEq,rA,rq,rL,e1,e2,e3,e7,e8]
   have e9':=e9
   refine ⟨fun h1=>⟨fun h2=>?_,fun h2=>?_⟩,fun h1=>?_⟩
   ·have:V.bool (n % 2 ^ z==0)=V.bool (decide (0≤n∧n<2 ^ QA l z∧n % 2 ^ z=0)):=by simp [h1,h2]; rfl
    rw [← this]
    exact congrArg (fun x:Int=>V.bool (x==0)) e9
   ·simp [h2]
   ·simp [h1]
 | true =>
   simp -implicitDefEqProofs (disch:=omega) only [go_sem,↓reduceIte,reduceCtorEq,rA,rq,rL,Int.reduceEq,e1,e2,e3,e4,e5,e6,e7,e8]
   refine ⟨fun h1=>⟨fun h2=>?_,fun h2=>?_⟩,fun h1=>?_⟩
   ·have:V.bool (n % 2 ^ z==0)=V.bool (decide ((0 - (2:Int) ^ QA l z).tdiv 2≤n∧n<((2:Int) ^ QA l z).tdiv 2∧n % 2 ^ z=0)):=by simp only [h1,h2,true_and]; rfl
    rw [← this]
    exact congrArg (fun x:Int=>V.bool (x==0)) e9
   ·simp only [h2,false_and,and_false,decide_false]
   ·simp only [h1,false_and,decide_false]
theorem Qyg (hT:Qf P tab) (l:List Int) (q:Bool) (hl:l.length≤100):Pure P G QiJ [.lst 1 (l.map (V.int .u32)) q] fun v=>v=.int .u32 (orP l):=by
 intro t
 refine Qi 0 (zL _) (Qk hT Qii (by simp [QcE]) (Qg 1000 ?_))
 refine yg ?_
 refine QmK (fun n fr σ=>∃ i,i≤l.length∧n=l.length - i∧Ql fr 3=.int .u32 (orP (l.take i))∧Ql fr 6=.lst 1 (l.map (V.int .u32)) q∧Ql fr 7=.int .i64 l.length∧Ql fr 8=.int .i64 i ∧
  σ=⟨t,[]⟩) (fun n fr σ hJ=>?_) (m0:=l.length) ⟨0,zL _,rfl,?_⟩
 ·obtain ⟨i,hi,rfl,f3,f6,f7,f8,rfl⟩:=hJ
  refine Qg 1000 ?_
  rcases Nat.lt_or_ge i l.length with hlt | hge
  ·obtain ⟨p,hp⟩:∃ p,l[i]?=some p:=⟨_,List.getElem?_eq_getElem hlt⟩
   have hg:(l.map (V.int .u32)).getD i .any=.int .u32 p:=by simp [List.getD_eq_getElem?_getD,hp]
   have e1:orP (l.take (i+1))=IntKind.u32.wrap (BitVec.ofInt 32 (orP (l.take i)) ||| BitVec.ofInt 32 p).toNat:=by rw [List.take_add_one,hp]; simp [orP]
   have e2:=QfB hlt (by omega)
   simp -implicitDefEqProofs (disch:=omega) only [go_sem,↓reduceIte,rq,lM,f3,f6,f7,f8,hlt,hg]
   refine ⟨l.length - (i+1),_,_,by omega,Shift.refl _ _ _ _,i+1,hlt,rfl,?_⟩
   simp -implicitDefEqProofs (disch:=omega) only [go_sem,↓reduceIte,rq,f6,f7,e2,and_true]
   exact congrArg (V.int .u32) e1.symm
  ·have hi:i=l.length:=by omega
   subst hi
   rw [List.take_length] at f3
   simp -implicitDefEqProofs (disch:=omega) only [go_sem,↓reduceIte,f7,f8,show ¬ l.length<l.length from by omega]
   refine Qa 1000 ?_
   simp -implicitDefEqProofs (disch:=omega) only [go_sem,↓reduceIte,rq,f3]
 ·refine ya ?_
  simp [orP]
theorem Qpz:tabC.length=594:=by decide +kernel
theorem Qmv:ones tabC:=by
 have:tabC.all Am.QB3=true:=by decide +kernel
 intro c hc
 exact List.all_eq_true.1 this c hc
theorem Qic:Qb tabC=true:=by decide +kernel
theorem Qv8:∀ k:Fin 66,(tabC.drop (k * 9)).take 9=(if k.val=0 then zeroC else Qoa (T.getD (k.val - 1) ⟨0,[],0,0,0⟩)):=by
 intro k
 have h:∀ (l:List RR) (j:Nat),j<l.length→(((l.map Qoa).flatten).drop (j * 9)).take 9=Qoa (l.getD j ⟨0,[],0,0,0⟩):=by
  intro l
  induction l with
  | nil=>intro j hj; simp at hj
  | cons r l ih =>
    intro j hj
    cases j with
    | zero=>simp [Qoa,Qno]
    | succ j =>
      have:=ih j (by simpa using hj)
      have e:(j+1) * 9=(Qoa r).length+j * 9:=by simp [Qoa,Qno]; omega
      rw [List.map_cons,List.flatten_cons,e,← List.drop_drop,List.drop_left,this]
      rfl
 obtain ⟨k,hk⟩:=k
 cases k with
 | zero=>simp [tabC,zeroC]
 | succ k =>
   have e:(k+1) * 9=zeroC.length+k * 9:=by simp [zeroC]; omega
   simp only [tabC,e]
   rw [← List.drop_drop,List.drop_left,h T k (by rw [QoD]; omega)]
   simp
def rowOf (op:Int):List V:=if 1≤op∧op≤65 then Qoa (T.getD (op.toNat - 1) ⟨0,[],0,0,0⟩) else zeroC
theorem QrF {op:Int} (h0:0≤op) (h1:op<66):(tabC.drop (op.toNat * 9)).take 9=rowOf op:=by
 have h:=Qv8 ⟨op.toNat,by omega⟩
 simp only at h
 rw [h]
 unfold rowOf
 by_cases hz:op.toNat=0
 ·rw [if_pos hz,if_neg (by omega)]
 ·rw [if_neg hz,if_pos (by omega)]
theorem QEJ (op:Int) (h0:0≤op) (h1:op<66):(rowOf op).length=9∧ones (rowOf op)∧Qb (rowOf op)=true:=by
 rw [← QrF h0 h1]
 have hl:=Qpz
 refine ⟨by simp; omega,fun c hc=>Qmv c (List.mem_of_mem_drop (List.mem_of_mem_take hc)),?_⟩
 have hn:=Qic
 have key:∀ (l:List V),Qb l=true→∀ k,Qb (l.drop k)=true∧Qb (l.take k)=true:=by
  intro l
  induction l with
  | nil=>intro _ k; simp [Qb]
  | cons v l ih =>
    intro h k
    simp only [Qb,Bool.and_eq_true] at h
    cases k with
    | zero=>simp [Qb,h]
    | succ k=>simp [Qb,h.1,ih h.2 k]
 exact (key _ (key _ hn _).1 _).2
theorem QDw (hT:Qf P tab) (op:Int) (h0:0≤op) (h1:op≤255):Pure P G0 QCg [.int .u8 op] fun v=>v=.tup [.agg (rowOf op),.bool (decide (1≤op∧op≤65))]:=by
 intro t
 have hl:=Qpz
 have hc:=Qmv
 refine Qi 0 (zL _) (Qk hT Qhx (by simp [QBK]) (Qg 1000 ?_))
 refine ya ?_
 refine Qbe hT QoK (QDt hT) rfl 1000 fun v hv=>?_
 subst hv
 simp -implicitDefEqProofs (disch:=omega) only [go_sem,↓reduceIte,reduceCtorEq,rA,rq,rL,hl,hc]
 have e1:IntKind.i64.wrap op=op:=XU (by omega) (by omega)
 rw [e1]
 refine ⟨fun h=>?_,fun h=>⟨fun h2=>?_,fun h2=>?_⟩⟩
 ·unfold rowOf; simp [show ¬ (1≤op) from by omega,zeroC]
 ·unfold rowOf; simp [show ¬ (op≤65) from by omega,zeroC]
 ·have hg:=QrF h0 (show op<66 by omega)
  obtain ⟨g1,g2,g3⟩:=QEJ op h0 (by omega)
  rw [hg]
  simp only [Xt,g1,g2,g3,h0,List.drop_succ_cons,List.drop_nil,List.append_nil,List.take_of_length_le (show (rowOf op).length≤9 by omega),and_self,lR,show op.toNat<66 by omega,show op.toNat * 9≤585 by omega,show (1≤op∧op≤65)=True by simp; omega,decide_true]
end
end Go.Proofs.YtbdhjeojcpgblaaGreatDoor
namespace Go.Proofs.YtbdhjeojcpgblaaGreatDoor
open Go Go.Am Go.Rv
set_option maxRecDepth 100000
theorem QEz (p:Int) (y:Nat × (Nat × Nat)) (h:y.2.2≤30):Quu p y=p % 2 ^ y.2.2:=by
 have e1:min y.2.2 64=y.2.2:=by omega
 obtain ⟨g1,g2⟩:=QcG y.2.2 30 h
 have e2:IntKind.i64.wrap (2 ^ y.2.2)=2 ^ y.2.2:=XU (by omega) (by omega)
 have e3:IntKind.i64.wrap ((2:Int) ^ y.2.2 - 1)=2 ^ y.2.2 - 1:=XU (by omega) (by omega)
 unfold Quu QEy
 rw [e1,e2,e3]
 exact QgC .i64 y.2.2 _ _ rfl (by simp [IntKind.bits]; omega)
theorem wrap_u32 {x:Int} (h1:0≤x) (h2:x<4294967296):IntKind.u32.wrap x=x:=Qas _ (by simpa [IntKind.min,IntKind.signed] using h1) (by simp [IntKind.max,IntKind.signed,IntKind.bits]; omega)
theorem Y6 (p n:Int) (i a m:Nat) (hm:m≤30) (ham:a+m≤32) (h0:0≤p) (hp:p+n % 2 ^ m * 2 ^ a<4294967296) (hd:p % 2 ^ (a+m)=0∨p<2 ^ a):Qn9 (p,n) (i,(a,m))=(p+n % 2 ^ m * 2 ^ a,n / 2 ^ m):=by
 have e1:min m 64=m:=by omega
 have e2:min a 32=a:=by omega
 obtain ⟨g1,g2⟩:=QcG m 30 hm
 obtain ⟨q1,q2⟩:=QcG (a+m) 32 ham
 obtain ⟨r1,_⟩:=QcG a 32 (by omega)
 have s1:=Int.emod_nonneg n (show (2:Int) ^ m≠0 by omega)
 have s2:=Int.emod_lt_of_pos n (show (0:Int)<2 ^ m by omega)
 have h1:=Int.mul_nonneg s1 (show (0:Int)≤2 ^ a by omega)
 have h2:=Int.mul_le_mul_of_nonneg_right (show n % 2 ^ m+1≤2 ^ m by omega) (show (0:Int)≤2 ^ a by omega)
 rw [Int.add_mul,Int.mul_comm (2 ^ m) (2 ^ a),← Int.pow_add] at h2
 unfold Qn9
 simp only [e1,e2,QEz _ (i,(a,m)) hm]
 rw [wrap_u32 s1 (by omega),wrap_u32 h1 (by omega)]
 congr 1
 rcases hd with hd | hd
 ·exact QBX .u32 (a+m) _ _ h0 h1 (by omega) hd (by simp [IntKind.max,IntKind.signed,IntKind.bits]; omega)
 ·exact QRL .u32 a _ _ h0 h1 hd (Int.mul_emod_left _ _) (by simp [IntKind.max,IntKind.signed,IntKind.bits]; omega)
variable {f:Int}
theorem sp_eq (x:Int) (h:f=82∨f=87∨f=73∨f=72∨f=83∨f=66∨f=85∨f=74∨f=69) :
 (spB x (upto (fun j=>((bitsOf f).length - 1 - j,(bitsOf f).getD ((bitsOf f).length - 1 - j) (0,0))) (bitsOf f).length)).1=(QD6 (bitsOf f) x).1:=by
 rcases h with rfl | rfl | rfl | rfl | rfl | rfl | rfl | rfl | rfl
 ·rfl
 ·simp only [bitsOf,Int.reduceEq,if_true,if_false,lC,lN,upto,List.range_succ,List.range_zero,nA,List.map_cons,List.map_nil,spB,List.foldl_cons,List.foldl_nil,QD6,List.foldr_cons,List.foldr_nil,rA,Nat.reduceSub,List.getD_cons_zero]
  rw [Y6 _ _ _ _ _ (by omega) (by omega) (by omega) (by omega) (by omega)]
 ·simp only [bitsOf,Int.reduceEq,if_true,if_false,lC,lN,upto,List.range_succ,List.range_zero,nA,List.map_cons,List.map_nil,spB,List.foldl_cons,List.foldl_nil,QD6,List.foldr_cons,List.foldr_nil,rA,Nat.reduceSub,List.getD_cons_zero]
  rw [Y6 _ _ _ _ _ (by omega) (by omega) (by omega) (by omega) (by omega)]
 ·simp only [bitsOf,Int.reduceEq,if_true,if_false,lC,lN,upto,List.range_succ,List.range_zero,nA,List.map_cons,List.map_nil,spB,List.foldl_cons,List.foldl_nil,QD6,List.foldr_cons,List.foldr_nil,rA,Nat.reduceSub,List.getD_cons_zero]
  rw [Y6 _ _ _ _ _ (by omega) (by omega) (by omega) (by omega) (by omega)]
 ·simp only [bitsOf,Int.reduceEq,if_true,if_false,lC,lN,upto,List.range_succ,List.range_zero,nA,cA,List.map_cons,List.map_nil,spB,List.foldl_cons,List.foldl_nil,QD6,List.foldr_cons,List.foldr_nil,rA,Nat.reduceSub,List.getD_cons_zero,List.getD_cons_succ]
  rw [Y6 _ _ 1 7 5 (by omega) (by omega) (by omega) (by omega) (by omega),Y6 _ _ 0 25 7 (by omega) (by omega) (by omega) (by omega) (by omega)]
 ·simp only [bitsOf,Int.reduceEq,if_true,if_false,lC,lN,upto,List.range_succ,List.range_zero,nA,cA,List.map_cons,List.map_nil,spB,List.foldl_cons,List.foldl_nil,QD6,List.foldr_cons,List.foldr_nil,rA,Nat.reduceSub,List.getD_cons_zero,List.getD_cons_succ]
  rw [Y6 _ _ 3 8 4 (by omega) (by omega) (by omega) (by omega) (by omega),Y6 _ _ 2 25 6 (by omega) (by omega) (by omega) (by omega) (by omega),Y6 _ _ 1 7 1 (by omega) (by omega) (by omega) (by omega) (by omega),Y6 _ _ 0 31 1 (by omega) (by omega) (by omega) (by omega) (by omega)]
 ·simp only [bitsOf,Int.reduceEq,if_true,if_false,lC,lN,upto,List.range_succ,List.range_zero,nA,List.map_cons,List.map_nil,spB,List.foldl_cons,List.foldl_nil,QD6,List.foldr_cons,List.foldr_nil,rA,Nat.reduceSub,List.getD_cons_zero]
  rw [Y6 _ _ _ _ _ (by omega) (by omega) (by omega) (by omega) (by omega)]
 ·simp only [bitsOf,Int.reduceEq,if_true,if_false,lC,lN,upto,List.range_succ,List.range_zero,nA,cA,List.map_cons,List.map_nil,spB,List.foldl_cons,List.foldl_nil,QD6,List.foldr_cons,List.foldr_nil,rA,Nat.reduceSub,List.getD_cons_zero,List.getD_cons_succ]
  rw [Y6 _ _ 3 21 10 (by omega) (by omega) (by omega) (by omega) (by omega),Y6 _ _ 2 20 1 (by omega) (by omega) (by omega) (by omega) (by omega),Y6 _ _ 1 12 8 (by omega) (by omega) (by omega) (by omega) (by omega),Y6 _ _ 0 31 1 (by omega) (by omega) (by omega) (by omega) (by omega)]
 ·rfl
variable {x:Value} {I:Imm}
theorem Qrk {ρ:Names} {k:IntKind} {n:Int} (h:VR I ρ (.int k n) x):x=.int k n:=by cases h; rfl
theorem vr_pr {a b:Nat} {j:Nat} {g:Nat→Value} (h:∀ (i:Nat) (c:V),(pr a b).cells[i]?=some c→VR I noNames c (g i)):g 0=.int .i64 (a:Int)∧g 1=.int .i64 (b:Int) :=
 ⟨Qrk (h 0 (.int .i64 a) rfl),Qrk (h 1 (.int .i64 b) rfl)⟩
theorem QDF {w:World} {l:List (Nat × Nat)} (hI:∀ b o x,I b o=some x→w.cell? ⟨b,o,none⟩=some x) (h:VR I noNames (Qyj l) x) :
 ∃ a cap,x=.slice a l.length cap∧BitsAt w.heap.size w x l.length (fun j=>l.getD j (0,0)):=by
 cases l with
 | nil =>
   cases h with
   | lst _ _ _ _ _ _ _ _ h0=>exact absurd rfl h0
   | lstN _ _ _ a cap h0=>exact ⟨a,cap,rfl,.inl ⟨a,cap,rfl,rfl⟩⟩
 | cons p l =>
   generalize hv:Qyj (p::l)=v at h
   have e:v=.lst 2 ((p::l).map fun b=>pr b.1 b.2) true:=hv.symm
   rw [e] at h
   cases h with
   | lst _ _ _ _ b o cap g h0 h1 h2 h3 h4 h5 =>
     have hlen:((p::l).map fun b=>pr b.1 b.2).length=(p::l).length:=by simp
     have key:∀ j,j<(p::l).length→I b (o+j * 2)=some (.int .i64 (((p::l).getD j (0,0)).1:Int))∧I b (o+j * 2+1)=some (.int .i64 (((p::l).getD j (0,0)).2:Int)):=by
      intro j hj
      obtain ⟨q,hq⟩:∃ q,(p::l)[j]?=some q:=⟨_,List.getElem?_eq_getElem hj⟩
      have hm:((p::l).map fun b=>pr b.1 b.2)[j]?=some (pr q.1 q.2):=by rw [List.getElem?_map,hq]; rfl
      have hgd:(p::l).getD j (0,0)=q:=by rw [List.getD_eq_getElem?_getD,hq]; rfl
      obtain ⟨e1,e2⟩:=vr_pr (j:=j) (h5 j _ hm)
      rw [hgd]
      have a0:=h4 j _ hm 0 (.int .i64 q.1) rfl
      have a1:=h4 j _ hm 1 (.int .i64 q.2) rfl
      rw [e1] at a0
      rw [e2] at a1
      exact ⟨a0,a1⟩
     rw [hlen]
     refine ⟨_,cap,rfl,.inr ⟨b,o,cap,rfl,?_,fun j hj=>⟨hI _ _ _ (key j hj).1,hI _ _ _ (key j hj).2⟩⟩⟩
     exact block_lt_of_cell (hI _ _ _ (key 0 (by simp)).1)
theorem QFW {G:Nat→Option V} (n:Int) (h:f=82∨f=87∨f=73∨f=72∨f=83∨f=66∨f=85∨f=74∨f=69) :
 Pure Tryz.prog G Qe0 [.agg (Qno f),.int .i64 n] fun v=>v=.int .u32 (QpC f n):=by
 refine Qit (fun I w xs _ hI hc=>?_) (by rcases h with rfl | rfl | rfl | rfl | rfl | rfl | rfl | rfl | rfl <;> rfl)
 obtain ⟨hs,hv⟩:=hc
 obtain ⟨x0,x1,rfl⟩:∃ x0 x1,xs=#[x0,x1]:=by
  obtain ⟨l⟩:=xs
  simp at hs
  match l,hs with
  | [a,b],_=>exact ⟨a,b,rfl⟩
 have h0:=hv 0 _ x0 rfl rfl
 have h1:=Qrk (hv 1 _ x1 rfl rfl)
 subst h1
 cases h0 with
 | agg _ _ cs hl hcs =>
   obtain ⟨v0,v1,v2,v3,v4,v5,v6,rfl⟩:∃ v0 v1 v2 v3 v4 v5 v6,cs=#[v0,v1,v2,v3,v4,v5,v6]:=by
    obtain ⟨l⟩:=cs
    simp [Qno] at hl
    match l,hl with
    | [a,b,c,d,e,f,g],_=>exact ⟨a,b,c,d,e,f,g,rfl⟩
   have g3:=hcs 3 _ v3 rfl rfl
   have g4:=Qrk (hcs 4 _ v4 rfl rfl)
   have g6:=Qrk (hcs 6 _ v6 rfl rfl)
   subst g4 g6
   obtain ⟨a,cap,rfl,hb⟩:=QDF hI g3
   have hz:Qd6 f≤30:=by rcases h with rfl | rfl | rfl | rfl | rfl | rfl | rfl | rfl | rfl <;> decide
   have hlen:(bitsOf f).length≤1000:=by rcases h with rfl | rfl | rfl | rfl | rfl | rfl | rfl | rfl | rfl <;> decide
   have:=(callsIn_wide (n:=3)).1 (QBF 3 (by omega) v0 v1 v2 v5 a (bitsOf f).length cap (Qd6 f) (Qb8 f) n hz (fun j=>(bitsOf f).getD j (0,0)) hlen w hb)
   refine this.mono fun e w' ⟨he,hw⟩=>?_
   rw [sp_eq _ h] at he
   exact ⟨_,_,he,.int _ _ _,rfl,rfl,⟨hw.os,hw.tape,hw.output,hw.size,hw.block⟩⟩
variable {P:Program} {G:Nat→Option V}
section
attribute [local go_sem] nF nT aZ lR zA zL decide_true Qd0 Qbq QNn QNm QPa QO9 QO8 QO7 QO6 QO5 QO4 QO3
def inC (x:In):List V:=[.int .u8 x.op,.int .u8 x.rd,.int .u8 x.rs1,.int .u8 x.rs2,.int .i64 x.imm]
def QqN (x:In):Prop:=(0≤x.op∧x.op≤255)∧(0≤x.rd∧x.rd≤255)∧(0≤x.rs1∧x.rs1≤255)∧(0≤x.rs2∧x.rs2≤255)∧i64 x.imm
theorem g0a:G0 0=some (.agg [.int .i64 7,.int .i64 5]):=rfl
theorem g0b:G0 1=some (.agg [.int .i64 15,.int .i64 5]):=rfl
theorem g0c:G0 2=some (.agg [.int .i64 20,.int .i64 5]):=rfl
theorem QDu (hT:Qf P tab) (b:Bool) (n:Int):Pure P G Qho [.bool b,.int .u8 n] fun v=>v=.bool (decide (n<32)&&(b || decide (n=0))):=by
 intro t
 refine Qk hT Qbh (by simp [Qbq]) (Qg 1000 ?_)
 refine ya ?_
 by_cases h:n<32 <;> cases b <;> simp [h]
 rfl
theorem QqA (hT:Qf Tryz.prog tab) (x:In) (hx:QqN x):Pure Tryz.prog G0 Qm0 [.agg (inC x)] fun v=>v=.tup [.int .u32 (enc T x).1,.int .i64 (enc T x).2]:=by
 obtain ⟨⟨o0,o1⟩,⟨a0,a1⟩,⟨b0,b1⟩,⟨c0,c1⟩,hi⟩:=hx
 by_cases hop:1≤x.op∧x.op≤65
 ·obtain ⟨r,hk⟩:∃ r,T[(x.op - 1).toNat]?=some r:=⟨_,List.getElem?_eq_getElem (by rw [QoD]; omega)⟩
  have hrow:rowOf x.op=Qoa r:=by
   unfold rowOf
   rw [if_pos hop]
   have:x.op.toNat - 1=(x.op - 1).toNat:=by omega
   rw [this,List.getD_eq_getElem?_getD,hk]; rfl
  have hf:=forms (QnV r (List.mem_of_getElem? hk))
  have he:enc T x=if x.rd > 31∨x.rs1 > 31∨x.rs2 > 31∨(Zt r.form=false∧x.rd≠0)∨(Qao r.form=false∧x.rs1≠0)∨(QaO r.form=false∧x.rs2≠0)∨((r.form=82∨r.form=69)∧x.imm≠0) then (0,100)
   else if room r.form x.imm=false then (0,101)
   else (Yy r+x.rd * 128+x.rs1 * 32768+x.rs2 * 1048576+spread r.form x.imm,0):=by
   unfold enc; rw [if_pos (by rw [QoD]; exact hop),hk]
  intro t
  obtain ⟨y,hy,hyl⟩:=Qep (bitsOf r.form)
  refine Qi 0 (zL _) (Qk hT Qa2 (by simp [Qd0]) (Qg 1000 ?_))
  simp -implicitDefEqProofs (disch:=omega) only [go_sem,↓reduceIte,reduceCtorEq,rA,rq,rL,inC]
  refine Qbe hT Qhx (QDw hT x.op o0 o1) rfl 1000 fun v hv=>?_
  subst hv
  rw [hrow]
  have hbl:(bitsOf r.form).length=0↔(r.form=82∨r.form=69):=by rcases hf with h | h | h | h | h | h | h | h | h <;> rw [h] <;> simp [bitsOf]
  have bad:(x.rd > 31∨x.rs1 > 31∨x.rs2 > 31∨(Zt r.form=false∧x.rd≠0)∨(Qao r.form=false∧x.rs1≠0)∨(QaO r.form=false∧x.rs2≠0)∨((r.form=82∨r.form=69)∧x.imm≠0))→enc T x=(0,100):=fun h=>by rw [he,if_pos h]
  have m1:=QDu (G:=G0) hT (Zt r.form) x.rd
  have m2:=QDu (G:=G0) hT (Qao r.form) x.rs1
  have m3:=QDu (G:=G0) hT (QaO r.form) x.rs2
  have bb:∀ (b:Bool) (n:Int),(decide (n<32)&&(b || decide (n=0)))=false→n > 31∨(b=false∧n≠0):=fun b n h=>by
   by_cases h1:n<32
   ·cases b <;> simp [h1] at h; exact .inr ⟨rfl,h⟩
   ·exact .inl (by omega)
  have bt:∀ (b:Bool) (n:Int),(decide (n<32)&&(b || decide (n=0)))=true→n≤31∧(b=false→n=0):=fun b n h=>by
   simp only [Bool.and_eq_true,decide_eq_true_eq,Bool.or_eq_true] at h
   exact ⟨by omega,fun hb=>by rw [hb] at h; simpa using h.2⟩
  simp -implicitDefEqProofs (disch:=omega) only [go_sem,↓reduceIte,reduceCtorEq,rA,rq,rL,rT,Qoa,Qno,hy,hop]
  refine Qbe hT Qbh m1 rfl 1000 fun v hv=>?_
  subst hv
  cases q1:(decide (x.rd<32)&&(Zt r.form || decide (x.rd=0))) with
  | false =>
    refine ya ?_
    rw [bad (by rcases bb _ _ q1 with h | h; exact .inl h; exact .inr (.inr (.inr (.inl h))))]
  | true =>
    refine ya ?_
    refine Qbe hT Qbh m2 rfl 1000 fun v hv=>?_
    subst hv
    cases q2:(decide (x.rs1<32)&&(Qao r.form || decide (x.rs1=0))) with
    | false =>
      refine ya ?_
      rw [bad (by rcases bb _ _ q2 with h | h; exact .inr (.inl h); exact .inr (.inr (.inr (.inr (.inl h)))))]
    | true =>
      refine ya ?_
      refine Qbe hT Qbh m3 rfl 1000 fun v hv=>?_
      subst hv
      cases q3:(decide (x.rs2<32)&&(QaO r.form || decide (x.rs2=0))) with
      | false =>
        refine ya ?_
        rw [bad (by rcases bb _ _ q3 with h | h; exact .inr (.inr (.inl h)); exact .inr (.inr (.inr (.inr (.inr (.inl h))))))]
      | true =>
        obtain ⟨d1,e1⟩:=bt _ _ q1
        obtain ⟨d2,e2⟩:=bt _ _ q2
        obtain ⟨d3,e3⟩:=bt _ _ q3
        have hwd:QA (bitsOf r.form) (Qd6 r.form)≤60:=by rcases hf with h | h | h | h | h | h | h | h | h <;> rw [h] <;> decide
        have hl4:(bitsOf r.form).length≤4:=by rcases hf with h | h | h | h | h | h | h | h | h <;> rw [h] <;> decide
        have hb4:∀ p∈bitsOf r.form,p.1≤31∧p.2≤30:=by rcases hf with h | h | h | h | h | h | h | h | h <;> rw [h] <;> decide
        have hz4:Qd6 r.form≤30:=by rcases hf with h | h | h | h | h | h | h | h | h <;> rw [h] <;> decide
        have cf:=c_fits (G:=G0) hT (Zt r.form) (Qao r.form) (QaO r.form) (bitsOf r.form) (Qd6 r.form) (Qnl r.form) (Qb8 r.form) x.imm hl4 hb4 hz4 hwd hi
        have ef:=QFA x.imm hf
        unfold QSv at ef
        simp only at ef
        have cf:Pure Tryz.prog G0 QdA [.agg (frm (Zt r.form) (Qao r.form) (QaO r.form) (bitsOf r.form) (Qd6 r.form) (Qnl r.form) (Qb8 r.form)),.int .i64 x.imm] fun v=>v=.bool (room r.form x.imm):=by rw [← ef]; exact cf
        simp only [frm,hy] at cf
        have cs:=QFW (G:=G0) x.imm hf
        simp only [Qno,hy] at cs
        have w1:IntKind.u32.wrap x.rd=x.rd:=wrap_u32 (by omega) (by omega)
        have w2:IntKind.u32.wrap x.rs1=x.rs1:=wrap_u32 (by omega) (by omega)
        have w3:IntKind.u32.wrap x.rs2=x.rs2:=wrap_u32 (by omega) (by omega)
        have w4:IntKind.u32.wrap (x.rd * 128)=x.rd * 128:=wrap_u32 (by omega) (by omega)
        have w5:IntKind.u32.wrap (x.rs1 * 32768)=x.rs1 * 32768:=wrap_u32 (by omega) (by omega)
        have w6:IntKind.u32.wrap (x.rs2 * 1048576)=x.rs2 * 1048576:=wrap_u32 (by omega) (by omega)
        have ct:=Qyg (G:=G0) hT [Yy r,x.rd * 128,x.rs1 * 32768,x.rs2 * 1048576,QpC r.form x.imm] true (by simp)
        simp only [List.map_cons,List.map_nil] at ct
        refine yg ?_
        refine ⟨fun hl=>⟨fun hm=>?_,fun hm=>?_⟩,fun hl=>?_⟩
        ·rw [bad (.inr (.inr (.inr (.inr (.inr (.inr ⟨hbl.1 (by omega),hm⟩))))))]
        all_goals (
         have hgood:¬((r.form=82∨r.form=69)∧x.imm≠0):=fun h=>by first | exact h.2 hm | exact hl (by have:=hbl.2 h.1; omega)
         have he2:enc T x=if room r.form x.imm=false then (0,101) else (Yy r+x.rd * 128+x.rs1 * 32768+x.rs2 * 1048576+spread r.form x.imm,0):=by
          rw [he,if_neg]
          rintro (h | h | h | h | h | h | h)
          ·omega
          ·omega
          ·omega
          ·exact h.2 (e1 h.1)
          ·exact h.2 (e2 h.1)
          ·exact h.2 (e3 h.1)
          ·exact hgood h
         refine Qbe hT Qhe cf rfl 1000 fun v hv=>?_
         subst hv
         cases hr:room r.form x.imm with
         | false =>
           refine ya ?_
           rw [he2,hr]; rfl
         | true =>
           simp -implicitDefEqProofs (disch:=omega) only [go_sem,↓reduceIte,reduceCtorEq,rA,rq,rL,Int.reduceToNat,Int.reduceLE,g0a,g0b,g0c,show min 7 32=7 from rfl,show min 15 32=15 from rfl,show min 20 32=20 from rfl,Int.reducePow,w1,w2,w3,w4,w5,w6]
           refine Qbe hT Qk4 cs rfl 1000 fun v hv=>?_
           subst hv
           refine ya ?_
           refine Qbe hT Qii ct rfl 1000 fun v hv=>?_
           subst hv
           refine ya ?_
           rw [he2,hr,Qxm _ hf hr,QRM hk ⟨a0,d1⟩ ⟨b0,d2⟩ ⟨c0,d3⟩ e1 e2 e3 hr]
           rfl)
 ·have he:enc T x=(0,100):=by unfold enc; rw [if_neg (by rw [QoD]; exact hop)]
  have hrow:rowOf x.op=zeroC:=by unfold rowOf; rw [if_neg hop]
  intro t
  refine Qi 0 (zL _) (Qk hT Qa2 (by simp [Qd0]) (Qg 1000 ?_))
  simp -implicitDefEqProofs (disch:=omega) only [go_sem,↓reduceIte,reduceCtorEq,rA,rq,rL,inC]
  refine Qbe hT Qhx (QDw hT x.op o0 o1) rfl 1000 fun v hv=>?_
  subst hv
  rw [hrow]
  have hop':decide (1≤x.op∧x.op≤65)=false:=by simpa using hop
  rw [hop']
  simp -implicitDefEqProofs (disch:=omega) only [go_sem,↓reduceIte,reduceCtorEq,rA,rq,rT,zeroC]
  rw [he]
end
end Go.Proofs.YtbdhjeojcpgblaaGreatDoor
namespace Go.Proofs.YtbdhjeojcpgblaaGreatDoor
open Go Go.Am Go.Rv Go.Rg
set_option maxRecDepth 100000
variable {P:Program}
section
attribute [local go_sem] nF nT aZ lR Nat.mul_one Nat.one_mul Nat.succ_ne_zero zA zL Nat.zero_mul Option.getD_none Option.getD_some Option.isSome_none Option.isSome_some and_true beq_self_eq_true bne_self_eq_false decide_false decide_true false_implies ge_iff_le gt_iff_lt inC Qu not_false_eq_true not_true_eq_false QfR QKL QKK QKJ QKI QKH QKG true_and true_implies
theorem QDE (l:List (Nat × Nat)):∃ sz L q,Qyj l=.lst sz L q:=by
 cases l <;> exact ⟨_,_,_,rfl⟩
theorem QBN (op:Int):∃ a b sz L q z s m c,rowOf op=[.bool (Zt (rro op).form),.bool a,.bool b,.lst sz L q,.int .i64 z,.bool s,.int .u32 m,.str (rro op).name,.int .u32 c]:=by
 unfold rowOf rro
 split
 ·generalize T.getD (op.toNat - 1) ⟨0,[],0,0,0⟩=r
  obtain ⟨sz,L,q,h⟩:=QDE (bitsOf r.form)
  exact ⟨Qao r.form,QaO r.form,sz,L,q,Qd6 r.form,Qnl r.form,Qb8 r.form,Yy r,by rw [← h]; rfl⟩
 ·exact ⟨false,false,0,[],true,0,false,0,0,rfl⟩
theorem QFZ (hT:Qf Tryz.prog tab) (x:In) (hx:QqN x):Pure Tryz.prog G0 QmZ [.agg (inC x)] fun u=>u=.tup [.int .u8 (wrs x).1,.bool (wrs x).2]:=by
 intro t
 have hE:=QqA hT x hx
 have hO:=QDw hT x.op hx.1.1 hx.1.2
 obtain ⟨a,b,sz,L,q,z,s,m,c,hr⟩:=QBN x.op
 rw [hr] at hO
 refine Qi 0 (zL _) (Qk hT QmA (by simp [QfR]) (Qg 14 ?_))
 refine ya ?_
 iterate 9 (try (refine Qa 4 ?_; simp -implicitDefEqProofs (disch:=omega) only [go_sem,↓reduceIte,reduceCtorEq,rA,rq,rL,rT,Nat.reduceSub,Nat.reduceMul,Int.reduceToNat,Int.reduceLE,Int.reduceLT,Int.reduceEq,Int.reduceNe,Nat.reduceBEq,Nat.reduceBNe,Int.reduceBEq,Int.reduceBNe]))
 refine Qj hT Qa2 hE rfl 4 ?_
 refine ya ?_
 iterate 9 (try (refine Qa 4 ?_; simp -implicitDefEqProofs (disch:=omega) only [go_sem,↓reduceIte,reduceCtorEq,rA,rq,rL]))
 by_cases h1:(enc T x).2=0
 ·by_cases h2:Zt (rro x.op).form=true
  ·by_cases h3:x.rd=0
   ·have hw:wrs x=(0,false):=if_neg (by simp [h3])
    have h3':(x.rd==0)=true:=by simp [h3]
    rw [h2] at hO
    refine Qj hT Qhx hO rfl 4 ?_
    refine ym ?_
    iterate 16 (try (refine Qa 4 ?_; simp -implicitDefEqProofs (disch:=omega) only [go_sem,↓reduceIte,reduceCtorEq,rA,rq,rL,h3',hw]))
   ·have hw:wrs x=(x.rd,true):=if_pos ⟨h1,h2,h3⟩
    have h3':(x.rd==0)=false:=by simpa using h3
    rw [h2] at hO
    refine Qj hT Qhx hO rfl 4 ?_
    refine ym ?_
    iterate 16 (try (refine Qa 4 ?_; simp -implicitDefEqProofs (disch:=omega) only [go_sem,↓reduceIte,reduceCtorEq,rA,rq,rL,h3',hw]))
  ·have hw:wrs x=(0,false):=if_neg (by simp [h2])
   rw [Bool.eq_false_iff.2 h2] at hO
   refine Qj hT Qhx hO rfl 4 ?_
   refine ym ?_
   iterate 16 (try (refine Qa 4 ?_; simp -implicitDefEqProofs (disch:=omega) only [go_sem,↓reduceIte,reduceCtorEq,rA,rq,rL,hw]))
 ·have hw:wrs x=(0,false):=if_neg (by simp [h1])
  have h1':((enc T x).2==0)=false:=by simpa using h1
  have h1'':((enc T x).2=0)=False:=eq_false h1
  refine Qj hT Qhx hO rfl 4 ?_
  refine ya ?_
  iterate 16 (try (refine Qa 4 ?_; simp -implicitDefEqProofs (disch:=omega) only [go_sem,↓reduceIte,reduceCtorEq,rA,rq,h1',bne,hw]))
end
end Go.Proofs.YtbdhjeojcpgblaaGreatDoor
namespace Go.Proofs.YtbdhjeojcpgblaaGreatDoor
open Go Go.Am
set_option maxRecDepth 100000
variable {P:Program} {G:Nat→Option V}
section
attribute [local go_sem] nF Int.lt_irrefl lC lN aZ lR Nat.mul_one Nat.succ_ne_zero zA zL and_true beq_self_eq_true bne_self_eq_false Z3 QHa QG9 Zo QG8 QG7 decide_false decide_true false_implies gt_iff_lt not_false_eq_true not_true_eq_false QcF QHY QHX Q6 QIi QIh QzG QzF QzE QzD QzC QzB QzA QIg QIf QIe QId QIc QIb QIa QH9 QG QH8 QH7 Qzz Qzy Qzx QH6 QH5 QH4 QH3 QH2 QH1 QH0 QHZ QK QHB QHA QHz QHy QHx QHw QHv QHu Xq QIk QIj QI QHh QHg QHf QHe QHd QHc QHb QZ QHL QHK Qzm Qzl Qzk Qzj Qzi Qzh Qzg Qzf Qze Qzd QHJ Qzc Qzb Qza Qy9 Qy8 Qy7 Qy6 Qy5 Qy4 Qy3 QHI Qy2 QHH QHG QHF QHE QHD QHC true_and true_implies
theorem Qvt:((2:Nat):Int)=2:=rfl
theorem QSY:((1:Nat):Int)=1:=rfl
theorem QS5 (hT:Qf P tab) (a:Int):Pure P G Qea [.int .u8 a] fun u=>u=.bool false:=by
 intro t
 refine Qi 0 (zL _) (Qk hT QdW (by simp [Zo]) (Qg 1000 ?_))
 exact yb
theorem c_Less (hT:Qf P tab) (a b:Int):Pure P G Qe5 [.int .u8 a,.int .u8 b] fun u=>u=.bool (decide (a<b)):=by
 intro t
 refine Qi 0 (zL _) (Qk hT QbL (by simp [Z3]) (Qg 1000 ?_))
 refine ya ?_
 refine Qj hT QdW (QS5 hT a) rfl 1000 ?_
 exact yb
def h3 (X B:Option Ob) (w:Nat) (cs:List V):List (Option Ob):=[X,B,some (.arr w 5 cs)]
variable {X B:Option Ob} {t w:Nat}
theorem c_ins2 (hT:Qf P tab) (a b:Int) :
 C P G 0 Yh [.sl 2 w 0 1 2 none,.int .i64 0,.int .i64 2] ⟨t,h3 X B w [.int .u8 a,.int .u8 b]⟩ fun v σ=>v=.tup []∧σ=⟨t,h3 X B w (if b<a then [.int .u8 b,.int .u8 a] else [.int .u8 a,.int .u8 b])⟩:=by
 have hL:=c_Less (P:=P) (G:=G) hT b a
 have w1:IntKind.i64.wrap (0+1)=1:=by decide
 have w2:IntKind.i64.wrap (1+1)=2:=by decide
 have w3:IntKind.i64.wrap (1 - 1)=0:=by decide
 refine Qk hT Yc (by simp [QI]) (Qg 1000 ?_)
 simp -implicitDefEqProofs (disch:=omega) only [go_sem,↓reduceIte,reduceCtorEq,rA,rq,h3,w1]
 refine Ya 2 40 ?_
 by_cases h:b<a
 ·have h':decide (b<a)=true:=decide_eq_true h
  rw [h'] at hL
  rw [if_pos h]
  refine ya ?_
  refine Ya 2 4 ?_
  refine ya ?_
  iterate 9 (try (refine Qa 4 ?_; simp -implicitDefEqProofs (disch:=omega) only [go_sem,↓reduceIte,reduceCtorEq,rA,rq,rL,rT,Int.reduceToNat,Int.reduceLE,Int.reduceLT,w3]))
  refine Qj hT QbL hL rfl 4 ?_
  refine ya ?_
  iterate 16 (try (refine Qa 9 ?_; simp -implicitDefEqProofs (disch:=omega) only [go_sem,↓reduceIte,reduceCtorEq,rA,rq,rL,rT,Int.reduceToNat,Int.reduceLE,w2,w3]))
 ·have h':decide (b<a)=false:=decide_eq_false h
  rw [h'] at hL
  rw [if_neg h]
  refine ya ?_
  refine Ya 2 4 ?_
  refine ya ?_
  iterate 9 (try (refine Qa 4 ?_; simp -implicitDefEqProofs (disch:=omega) only [go_sem,↓reduceIte,reduceCtorEq,rA,rq,rL,rT,Int.reduceToNat,Int.reduceLE,Int.reduceLT,w3]))
  refine Qj hT QbL hL rfl 4 ?_
  refine ya ?_
  iterate 16 (try (refine Qa 9 ?_; simp -implicitDefEqProofs (disch:=omega) only [go_sem,↓reduceIte,reduceCtorEq,rq,w2]))
theorem c_pdq2 (hT:Qf P tab) (a b l:Int) :
 C P G 0 YO [.sl 2 w 0 1 2 none,.int .i64 0,.int .i64 2,.int .i64 l] ⟨t,h3 X B w [.int .u8 a,.int .u8 b]⟩ fun v σ=>v=.tup []∧σ=⟨t,h3 X B w (if b<a then [.int .u8 b,.int .u8 a] else [.int .u8 a,.int .u8 b])⟩:=by
 have w1:IntKind.i64.wrap (2 - 0)=2:=by decide
 refine Qk hT YI (by simp [QZ]) (Qg 1000 ?_)
 simp -implicitDefEqProofs (disch:=omega) only [go_sem,↓reduceIte,reduceCtorEq,rA,rq,h3]
 refine Ya 1 40 ?_
 simp -implicitDefEqProofs (disch:=omega) only [go_sem,↓reduceIte,reduceCtorEq,rq,Int.reduceLE,w1]
 refine call hT Yc (c_ins2 hT a b) 40 fun v σ hv=>?_
 obtain ⟨rfl,rfl⟩:=hv
 simp -implicitDefEqProofs (disch:=omega) only [go_sem,↓reduceIte,reduceCtorEq,rq,h3]
def QSp:V→Bool
 | .int .i64 n=>decide (n=2)
 | _=>false
theorem QFl (v:V) (h:QSp v=true):Qd v=true∧v=.int .i64 2:=by
 unfold QSp at h
 split at h
 ·simp at h; subst h; exact ⟨rfl,rfl⟩
 ·cases h
theorem c_Len (hT:Qf P tab):Pure P G Qgf [.int .u64 2] fun u=>u=.int .i64 2 :=
 run_pure hT 100 10 (.int .i64 2) QSp QFl rfl (by kernel_rfl)
theorem QTa (hT:Qf P tab) (a b:Int) :
 C P G 0 ZU [.sl 2 w 0 1 2 none] ⟨t,h3 X B w [.int .u8 a,.int .u8 b]⟩ fun v σ=>v=.tup []∧σ=⟨t,h3 X B w (if b<a then [.int .u8 b,.int .u8 a] else [.int .u8 a,.int .u8 b])⟩:=by
 have w1:IntKind.u64.wrap 2=2:=by decide
 refine Qk hT ZQ (by simp [Xq]) (Qg 1000 ?_)
 simp -implicitDefEqProofs (disch:=omega) only [go_sem,↓reduceIte,reduceCtorEq,rq,h3,Qvt,w1]
 refine Qj hT QmB (c_Len hT) rfl 40 ?_
 refine ya ?_
 refine call hT YI (c_pdq2 hT a b 2) 40 fun v σ hv=>?_
 obtain ⟨rfl,rfl⟩:=hv
 simp -implicitDefEqProofs (disch:=omega) only [go_sem,↓reduceIte,reduceCtorEq,rq,h3]
theorem Qkc (hT:Qf P tab) (a b:Int) :
 C P G 0 Y8 [.sl 2 w 0 1 2 none] ⟨t,h3 X B w [.int .u8 a,.int .u8 b]⟩ fun v σ=>(a=b∧v=.sl 2 w 0 1 1 none∧σ=⟨t,h3 X B w [.int .u8 a,.int .u8 0]⟩)∨(a≠b∧v=.sl 2 w 0 1 2 none∧σ=⟨t,h3 X B w [.int .u8 a,.int .u8 b]⟩):=by
 have w2:IntKind.i64.wrap (1+1)=2:=by decide
 have w3:IntKind.i64.wrap (1 - 1)=0:=by decide
 refine Qk hT Xm (by simp [Q6]) (Qg 1000 ?_)
 simp -implicitDefEqProofs (disch:=omega) only [go_sem,↓reduceIte,reduceCtorEq,rq,h3,Qvt]
 refine Ya 2 60 ?_
 by_cases h:b=a
 ·have h':(b==a)=true:=by simp [h]
  simp -implicitDefEqProofs (disch:=omega) only [go_sem,↓reduceIte,reduceCtorEq,rA,rq,rL,rT,Nat.reduceSub,Int.reduceToNat,Int.reduceLE,Int.reduceLT,Qvt,w3,h]
  refine Ya 1 40 ?_
  simp -implicitDefEqProofs (disch:=omega) only [go_sem,↓reduceIte,reduceCtorEq,rq,rL,rT,Nat.reduceSub,Int.reduceToNat,Int.reduceLE,QSY]
  simp only [evW]
  simp -implicitDefEqProofs (disch:=omega) only [go_sem,↓reduceIte,reduceCtorEq,rA,rq,rL,rT,Nat.reduceSub,Int.reduceToNat,Int.reduceLE,tSq,tZ,List.drop_succ_cons,List.drop_zero,List.replicate_succ,List.replicate_zero,List.flatten_cons,List.flatten_nil,cA,nA,List.append_nil]
 ·have h':(b=a)=False:=eq_false h
  simp -implicitDefEqProofs (disch:=omega) only [go_sem,↓reduceIte,reduceCtorEq,rA,rq,rL,rT,Nat.reduceSub,Int.reduceToNat,Int.reduceLE,Int.reduceLT,Qvt,w2,w3,h']
  exact .inr fun e=>h e.symm
theorem k_z (hT:Qf P tab) (a:Int) (z:Bool) (hz:decide (a=0)=z):Pure P G Zr [.int .u8 a] fun u=>u=.bool z:=by
 intro t
 refine Qi 0 (zL _) (Qk hT YB (by simp [QcF]) (Qg 1000 ?_))
 refine ya ?_
 rw [← hz]; rfl
theorem c_Idx2 (hT:Qf P tab) (a b:Int) (h:a<b) (h0:0≤a) :
 C P G 0 XG [.sl 2 w 0 1 2 none,.fn (.func Zr) [] []] ⟨t,h3 X B w [.int .u8 a,.int .u8 b]⟩ fun v σ=>v=.int .i64 (if a=0 then 0 else -1)∧σ=⟨t,h3 X B w [.int .u8 a,.int .u8 b]⟩:=by
 have w2:IntKind.i64.wrap (1+1)=2:=by decide
 have w3:IntKind.i64.wrap (0+1)=1:=by decide
 refine Qk hT Q7 (by simp [QK]) (Qg 1000 ?_)
 simp -implicitDefEqProofs (disch:=omega) only [go_sem,↓reduceIte,reduceCtorEq,rq,h3,Qvt]
 refine Ya 3 60 ?_
 refine ya ?_
 by_cases ha:a=0
 ·refine Qj hT YB (k_z hT a true (decide_eq_true ha)) rfl 60 ?_
  simp -implicitDefEqProofs (disch:=omega) only [go_sem,↓reduceIte,reduceCtorEq,rq,ha]
 ·refine Qj hT YB (k_z hT a false (decide_eq_false ha)) rfl 60 ?_
  simp -implicitDefEqProofs (disch:=omega) only [go_sem,↓reduceIte,reduceCtorEq,rA,rq,rT,Int.reduceToNat,Int.reduceLE,Int.reduceLT,w3,ha]
  refine Qj hT YB (k_z hT b false (decide_eq_false (by omega))) rfl 60 ?_
  simp -implicitDefEqProofs (disch:=omega) only [go_sem,↓reduceIte,reduceCtorEq,rq,w2]
theorem c_Idx1 (hT:Qf P tab) (a:Int) (cs:List V) (hcs:cs.length=1) :
 C P G 0 XG [.sl 2 w 0 1 1 none,.fn (.func Zr) [] []] ⟨t,h3 X B w (.int .u8 a::cs)⟩ fun v σ=>v=.int .i64 (if a=0 then 0 else -1)∧σ=⟨t,h3 X B w (.int .u8 a::cs)⟩:=by
 have w3:IntKind.i64.wrap (0+1)=1:=by decide
 refine Qk hT Q7 (by simp [QK]) (Qg 1000 ?_)
 simp -implicitDefEqProofs (disch:=omega) only [go_sem,↓reduceIte,reduceCtorEq,rq,h3,QSY]
 refine Ya 3 60 ?_
 refine ya ?_
 by_cases ha:a=0
 ·refine Qj hT YB (k_z hT a true (decide_eq_true ha)) rfl 60 ?_
  simp -implicitDefEqProofs (disch:=omega) only [go_sem,↓reduceIte,reduceCtorEq,rq,ha]
 ·refine Qj hT YB (k_z hT a false (decide_eq_false ha)) rfl 60 ?_
  simp -implicitDefEqProofs (disch:=omega) only [go_sem,↓reduceIte,reduceCtorEq,rq,w3,ha]
theorem QQl (hT:Qf P tab) (a b:Int) (h:a<b) (h0:0≤a) :
 C P G 0 Xz [.sl 2 w 0 1 2 none,.fn (.func Zr) [] []] ⟨t,h3 X B w [.int .u8 a,.int .u8 b]⟩ fun v σ=>∃ t',t≤t'∧((a=0∧v=.sl 2 w 0 1 1 none∧σ=⟨t',h3 X B w [.int .u8 b,.int .u8 0]⟩)∨(a≠0∧v=.sl 2 w 0 1 2 none∧σ=⟨t',h3 X B w [.int .u8 a,.int .u8 b]⟩)):=by
 have w2:IntKind.i64.wrap (1+1)=2:=by decide
 have w3:IntKind.i64.wrap (0+1)=1:=by decide
 refine Qk hT QM (by simp [QG]) (Qg 1000 ?_)
 simp -implicitDefEqProofs (disch:=omega) only [go_sem,↓reduceIte,reduceCtorEq,rq,h3]
 refine call hT Q7 (c_Idx2 hT a b h h0) 60 fun v σ hv=>?_
 obtain ⟨rfl,rfl⟩:=hv
 by_cases ha:a=0
 ·rw [if_pos ha]
  simp -implicitDefEqProofs (disch:=omega) only [go_sem,↓reduceIte,reduceCtorEq,rq,h3,Int.reduceBEq,w3,Int.reduceNeg]
  refine Ya 3 60 ?_
  simp -implicitDefEqProofs (disch:=omega) only [go_sem,↓reduceIte,reduceCtorEq,rA,rq,rT,Int.reduceToNat,Int.reduceLE,Int.reduceLT,Qvt]
  refine Qj hT YB (k_z hT b false (decide_eq_false (by omega))) rfl 60 ?_
  simp -implicitDefEqProofs (disch:=omega) only [go_sem,↓reduceIte,reduceCtorEq,rA,rq,rL,rT,Nat.reduceSub,Int.reduceToNat,Int.reduceLE,tZ,List.drop_succ_cons,List.drop_zero,cA,nA,Qvt,w2,w3]
  try simp only [evW]
  try simp -implicitDefEqProofs (disch:=omega) only [go_sem,↓reduceIte,reduceCtorEq,rA,rq,rL,rT,Nat.reduceSub,Int.reduceToNat,Int.reduceLE,tSq,tZ,List.drop_succ_cons,List.drop_zero,List.replicate_succ,List.replicate_zero,List.flatten_cons,List.flatten_nil,cA,nA,List.append_nil,ha]
  exact ⟨t,lR _,rfl⟩
 ·rw [if_neg ha]
  simp -implicitDefEqProofs (disch:=omega) only [go_sem,↓reduceIte,reduceCtorEq,rq,h3,ha,Int.reduceNeg]
  exact ⟨t,lR _,rfl⟩
theorem c_Del1 (hT:Qf P tab) (a b:Int) :
 C P G 0 Xz [.sl 2 w 0 1 1 none,.fn (.func Zr) [] []] ⟨t,h3 X B w [.int .u8 a,.int .u8 b]⟩ fun v σ=>∃ t',t≤t'∧((a=0∧v=.sl 2 w 0 1 0 none∧σ=⟨t',h3 X B w [.int .u8 0,.int .u8 b]⟩)∨(a≠0∧v=.sl 2 w 0 1 1 none∧σ=⟨t',h3 X B w [.int .u8 a,.int .u8 b]⟩)):=by
 have w3:IntKind.i64.wrap (0+1)=1:=by decide
 refine Qk hT QM (by simp [QG]) (Qg 1000 ?_)
 simp -implicitDefEqProofs (disch:=omega) only [go_sem,↓reduceIte,reduceCtorEq,rq,h3]
 refine call hT Q7 (c_Idx1 hT a [.int .u8 b] rfl) 60 fun v σ hv=>?_
 obtain ⟨rfl,rfl⟩:=hv
 by_cases ha:a=0
 ·rw [if_pos ha]
  simp -implicitDefEqProofs (disch:=omega) only [go_sem,↓reduceIte,reduceCtorEq,rq,h3,Int.reduceBEq,w3,Int.reduceNeg]
  refine Ya 3 60 ?_
  simp -implicitDefEqProofs (disch:=omega) only [go_sem,↓reduceIte,reduceCtorEq,rq,rT,Nat.reduceSub,Int.reduceToNat,Int.reduceLE,QSY]
  try simp only [evW]
  try simp -implicitDefEqProofs (disch:=omega) only [go_sem,↓reduceIte,reduceCtorEq,rA,rq,rL,rT,Nat.reduceSub,Int.reduceToNat,Int.reduceLE,tZ,List.drop_succ_cons,List.drop_zero,List.replicate_succ,List.replicate_zero,List.flatten_cons,List.flatten_nil,cA,nA,List.append_nil,ha]
  exact ⟨t,lR _,rfl⟩
 ·rw [if_neg ha]
  simp -implicitDefEqProofs (disch:=omega) only [go_sem,↓reduceIte,reduceCtorEq,rq,h3,ha,Int.reduceNeg]
  exact ⟨t,lR _,rfl⟩
end
end Go.Proofs.YtbdhjeojcpgblaaGreatDoor
namespace Go.Proofs.YtbdhjeojcpgblaaGreatDoor
open Go Go.Am Go.Rv Go.Rg
set_option maxRecDepth 100000
variable {P:Program}
section
attribute [local go_sem] cA lC lN nA lR zA and_true bne_self_eq_false false_implies inC not_false_eq_true Qiq QKF QKE QKD QKC QKB QKA QKz QKy true_implies
def us (l:List Int):List V:=l.map (V.int .u8)
theorem QuA (a b:Int):Qhi a b=Qhi b a:=by unfold Qhi; rw [Int.min_comm,Int.max_comm]
variable {a:Int}
theorem QrI {b:Int} (h:a<b) (h0:0≤a):Qhi a b=if a=0 then [b] else [a,b]:=by
 unfold Qhi
 rw [Int.min_eq_left (by omega),Int.max_eq_right (by omega),if_pos h]
 split <;> split <;> first | rfl | omega
theorem QBT (h0:0≤a):Qhi a a=if a=0 then [] else [a]:=by
 unfold Qhi
 rw [Int.min_self,Int.max_self,if_neg (Int.lt_irrefl a)]
 split <;> split <;> first | rfl | omega
abbrev rdQ (X:Option Ob) (x:In):V→H→Prop:=fun v σ=>(rds x=[]∧v=.lst 0 [] true∧∃ t' ex,σ=⟨t',X::ex⟩)∨∃ t' w B cs,Qb cs=true∧v=.sl 2 w 0 1 (rds x).length none∧σ=⟨t',h3 X B w (us (rds x)++cs)⟩
theorem QTc (hT:Qf Tryz.prog tab) (x:In) (hx:QqN x) {t:Nat} {X:Option Ob}:C Tryz.prog G0 0 QjF [.agg (inC x)] ⟨t,[X]⟩ (rdQ X x):=by
 have hE:=QqA hT x hx
 obtain ⟨ho,hd,h1,h2,hi⟩:=hx
 refine Qk hT QoL (by simp [Qiq]) (Qg 1000 ?_)
 refine ya ?_
 refine Qj hT Qa2 hE rfl 1000 ?_
 by_cases hok:(enc T x).2=0
 ·have hr:rds x=Qhi x.rs1 x.rs2:=if_pos hok
  simp -implicitDefEqProofs (disch:=omega) only [go_sem,↓reduceIte,reduceCtorEq,rA,rq,rL,rT,hok]
  have hS:=fun (t w:Nat) (B:Option Ob)=>QTa (P:=Tryz.prog) (G:=G0) hT (t:=t) (w:=w) (X:=X) (B:=B) x.rs1 x.rs2
  simp only [h3] at hS
  refine call hT ZQ (hS _ _ _) 40 fun v σ hv=>?_
  obtain ⟨rfl,rfl⟩:=hv
  rcases Int.lt_trichotomy x.rs1 x.rs2 with hlt | heq | hgt
  ·have hz:=QrI hlt h1.1
   rw [if_neg (by omega)]
   refine ya ?_
   have hK:=fun (t w:Nat) (B:Option Ob)=>Qkc (P:=Tryz.prog) (G:=G0) hT (t:=t) (w:=w) (X:=X) (B:=B) x.rs1 x.rs2
   have hD:=fun (t w:Nat) (B:Option Ob)=>QQl (P:=Tryz.prog) (G:=G0) hT (t:=t) (w:=w) (X:=X) (B:=B) x.rs1 x.rs2 hlt h1.1
   simp only [h3] at hK hD
   refine call hT Xm (hK _ _ _) 40 fun v σ hv=>?_
   rcases hv with ⟨he,_,_⟩ | ⟨_,rfl,rfl⟩
   ·omega
   refine ya ?_
   refine call hT QM (hD _ _ _) 40 fun v σ hv=>?_
   obtain ⟨t',_,⟨h0,rfl,rfl⟩ | ⟨h0,rfl,rfl⟩⟩:=hv
   ·rw [if_pos h0] at hz
    refine ya ?_
    exact .inr ⟨t',_,_,[.int .u8 0],rfl,by rw [hr,hz]; rfl,by rw [hr,hz]; rfl⟩
   ·rw [if_neg h0] at hz
    refine ya ?_
    exact .inr ⟨t',_,_,[],rfl,by rw [hr,hz]; rfl,by rw [hr,hz]; rfl⟩
  ·have hz:=QBT h1.1
   rw [if_neg (by omega)]
   rw [← heq] at hr ⊢
   refine ya ?_
   have hK:=fun (t w:Nat) (B:Option Ob)=>Qkc (P:=Tryz.prog) (G:=G0) hT (t:=t) (w:=w) (X:=X) (B:=B) x.rs1 x.rs1
   have hD:=fun (t w:Nat) (B:Option Ob)=>c_Del1 (P:=Tryz.prog) (G:=G0) hT (t:=t) (w:=w) (X:=X) (B:=B) x.rs1 0
   simp only [h3] at hK hD
   refine call hT Xm (hK _ _ _) 40 fun v σ hv=>?_
   rcases hv with ⟨_,rfl,rfl⟩ | ⟨he,_,_⟩
   ·refine ya ?_
    refine call hT QM (hD _ _ _) 40 fun v σ hv=>?_
    obtain ⟨t',_,⟨h0,rfl,rfl⟩ | ⟨h0,rfl,rfl⟩⟩:=hv
    ·rw [if_pos h0] at hz
     refine ya ?_
     exact .inr ⟨t',_,_,[.int .u8 0,.int .u8 0],rfl,by rw [hr,hz]; rfl,by rw [hr,hz]; rfl⟩
    ·rw [if_neg h0] at hz
     refine ya ?_
     exact .inr ⟨t',_,_,[.int .u8 0],rfl,by rw [hr,hz]; rfl,by rw [hr,hz]; rfl⟩
   ·exact absurd rfl he
  ·have hz:=QrI hgt h2.1
   rw [QuA] at hr
   rw [if_pos hgt]
   refine ya ?_
   have hK:=fun (t w:Nat) (B:Option Ob)=>Qkc (P:=Tryz.prog) (G:=G0) hT (t:=t) (w:=w) (X:=X) (B:=B) x.rs2 x.rs1
   have hD:=fun (t w:Nat) (B:Option Ob)=>QQl (P:=Tryz.prog) (G:=G0) hT (t:=t) (w:=w) (X:=X) (B:=B) x.rs2 x.rs1 hgt h2.1
   simp only [h3] at hK hD
   refine call hT Xm (hK _ _ _) 40 fun v σ hv=>?_
   rcases hv with ⟨he,_,_⟩ | ⟨_,rfl,rfl⟩
   ·omega
   refine ya ?_
   refine call hT QM (hD _ _ _) 40 fun v σ hv=>?_
   obtain ⟨t',_,⟨h0,rfl,rfl⟩ | ⟨h0,rfl,rfl⟩⟩:=hv
   ·rw [if_pos h0] at hz
    refine ya ?_
    exact .inr ⟨t',_,_,[.int .u8 0],rfl,by rw [hr,hz]; rfl,by rw [hr,hz]; rfl⟩
   ·rw [if_neg h0] at hz
    refine ya ?_
    exact .inr ⟨t',_,_,[],rfl,by rw [hr,hz]; rfl,by rw [hr,hz]; rfl⟩
 ·have hok':((enc T x).2=0)=False:=eq_false hok
  have hr:rds x=[]:=if_neg hok
  simp -implicitDefEqProofs (disch:=omega) only [go_sem,↓reduceIte,reduceCtorEq,rA,rq,rL,rT,hok']
  exact .inl ⟨hr,rfl,_,_,rfl⟩
theorem QRI (x:In):(rds x).length≤2:=by
 unfold rds Qhi
 split
 ·split <;> split <;> simp
 ·simp
end
end Go.Proofs.YtbdhjeojcpgblaaGreatDoor
