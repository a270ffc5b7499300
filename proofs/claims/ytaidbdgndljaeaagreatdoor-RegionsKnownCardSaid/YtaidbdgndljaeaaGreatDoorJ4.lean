/- A number put into a word: what comes of it; the Qyn. -/
import Derived.Test.YtaidbdgndljaeaaGreatDoorJ3
import Derived.Test.YtaidbdgndljaeaaGreatDoorTabEq
import Derived.Test.YtaidbdgndljaeaaGreatDoorJ2
import Derived.Test.YtaidbdgndljaeaaGreatDoorTabB
import Derived.Test.YtaidbdgndljaeaaGreatDoorAmD
import Derived.KernelRfl
open Nat renaming reduceEqDiff → rq, reduceAdd → rA, reduceLeDiff → rL, reduceLT → rT, zero_add → zA, le_refl → lR, zero_le → zL, add_zero → aZ
open List renaming length_cons → lC, length_nil → lN, take_succ_cons → tS, length_append → lA, nil_append → nA, cons_append → cA, append_assoc → aA, take_nil → tN, take_zero → tZ, length_map → lM
open Bool renaming not_false → nF, not_true → nT
namespace Go.Proofs.YtaidbdgndljaeaaGreatDoor
open Go Go.Am Go.Rv
set_option maxRecDepth 100000
theorem Qxd (p:Int) (y:Nat × (Nat × Nat)) (h:y.2.2≤30):QpO p y=p % 2 ^ y.2.2:=by
 have e1:min y.2.2 64=y.2.2:=by omega
 obtain ⟨g1,g2⟩:=QbV y.2.2 30 h
 have e2:IntKind.i64.wrap (2 ^ y.2.2)=2 ^ y.2.2:=wrap_i64 (by omega) (by omega)
 have e3:IntKind.i64.wrap ((2:Int) ^ y.2.2 - 1)=2 ^ y.2.2 - 1:=wrap_i64 (by omega) (by omega)
 unfold QpO Qxc
 rw [e1,e2,e3]
 exact Qqq .i64 y.2.2 _ _ rfl (by simp [IntKind.bits]; omega)
theorem wrap_u32 {x:Int} (h1:0≤x) (h2:x<4294967296):IntKind.u32.wrap x=x:=X8 _ (by simpa [IntKind.min,IntKind.signed] using h1) (by simp [IntKind.max,IntKind.signed,IntKind.bits]; omega)
theorem ZO (p n:Int) (i a m:Nat) (hm:m≤30) (ham:a+m≤32) (h0:0≤p) (hp:p+n % 2 ^ m * 2 ^ a<4294967296) (hd:p % 2 ^ (a+m)=0∨p<2 ^ a):QlU (p,n) (i,(a,m))=(p+n % 2 ^ m * 2 ^ a,n / 2 ^ m):=by
 have e1:min m 64=m:=by omega
 have e2:min a 32=a:=by omega
 obtain ⟨g1,g2⟩:=QbV m 30 hm
 obtain ⟨q1,q2⟩:=QbV (a+m) 32 ham
 obtain ⟨r1,_⟩:=QbV a 32 (by omega)
 have s1:=Int.emod_nonneg n (show (2:Int) ^ m≠0 by omega)
 have s2:=Int.emod_lt_of_pos n (show (0:Int)<2 ^ m by omega)
 have h1:=Int.mul_nonneg s1 (show (0:Int)≤2 ^ a by omega)
 have h2:=Int.mul_le_mul_of_nonneg_right (show n % 2 ^ m+1≤2 ^ m by omega) (show (0:Int)≤2 ^ a by omega)
 rw [Int.add_mul,Int.mul_comm (2 ^ m) (2 ^ a),← Int.pow_add] at h2
 unfold QlU
 simp only [e1,e2,Qxd _ (i,(a,m)) hm]
 rw [wrap_u32 s1 (by omega),wrap_u32 h1 (by omega)]
 congr 1
 rcases hd with hd | hd
 ·exact Qq4 .u32 (a+m) _ _ h0 h1 (by omega) hd (by simp [IntKind.max,IntKind.signed,IntKind.bits]; omega)
 ·exact QF5 .u32 a _ _ h0 h1 hd (Int.mul_emod_left _ _) (by simp [IntKind.max,IntKind.signed,IntKind.bits]; omega)
variable {f:Int}
theorem sp_eq (x:Int) (h:f=82∨f=87∨f=73∨f=72∨f=83∨f=66∨f=85∨f=74∨f=69) :
 (spB x (upto (fun j=>((bitsOf f).length - 1 - j,(bitsOf f).getD ((bitsOf f).length - 1 - j) (0,0))) (bitsOf f).length)).1=(QwG (bitsOf f) x).1:=by
 rcases h with rfl | rfl | rfl | rfl | rfl | rfl | rfl | rfl | rfl
 ·rfl
 ·simp only [bitsOf,Int.reduceEq,if_true,if_false,lC,lN,upto,List.range_succ,List.range_zero,nA,List.map_cons,List.map_nil,spB,List.foldl_cons,List.foldl_nil,QwG,List.foldr_cons,List.foldr_nil,rA,Nat.reduceSub,List.getD_cons_zero]
  rw [ZO _ _ _ _ _ (by omega) (by omega) (by omega) (by omega) (by omega)]
 ·simp only [bitsOf,Int.reduceEq,if_true,if_false,lC,lN,upto,List.range_succ,List.range_zero,nA,List.map_cons,List.map_nil,spB,List.foldl_cons,List.foldl_nil,QwG,List.foldr_cons,List.foldr_nil,rA,Nat.reduceSub,List.getD_cons_zero]
  rw [ZO _ _ _ _ _ (by omega) (by omega) (by omega) (by omega) (by omega)]
 ·simp only [bitsOf,Int.reduceEq,if_true,if_false,lC,lN,upto,List.range_succ,List.range_zero,nA,List.map_cons,List.map_nil,spB,List.foldl_cons,List.foldl_nil,QwG,List.foldr_cons,List.foldr_nil,rA,Nat.reduceSub,List.getD_cons_zero]
  rw [ZO _ _ _ _ _ (by omega) (by omega) (by omega) (by omega) (by omega)]
 ·simp only [bitsOf,Int.reduceEq,if_true,if_false,lC,lN,upto,List.range_succ,List.range_zero,nA,cA,List.map_cons,List.map_nil,spB,List.foldl_cons,List.foldl_nil,QwG,List.foldr_cons,List.foldr_nil,rA,Nat.reduceSub,List.getD_cons_zero,List.getD_cons_succ]
  rw [ZO _ _ 1 7 5 (by omega) (by omega) (by omega) (by omega) (by omega),ZO _ _ 0 25 7 (by omega) (by omega) (by omega) (by omega) (by omega)]
 ·simp only [bitsOf,Int.reduceEq,if_true,if_false,lC,lN,upto,List.range_succ,List.range_zero,nA,cA,List.map_cons,List.map_nil,spB,List.foldl_cons,List.foldl_nil,QwG,List.foldr_cons,List.foldr_nil,rA,Nat.reduceSub,List.getD_cons_zero,List.getD_cons_succ]
  rw [ZO _ _ 3 8 4 (by omega) (by omega) (by omega) (by omega) (by omega),ZO _ _ 2 25 6 (by omega) (by omega) (by omega) (by omega) (by omega),ZO _ _ 1 7 1 (by omega) (by omega) (by omega) (by omega) (by omega),ZO _ _ 0 31 1 (by omega) (by omega) (by omega) (by omega) (by omega)]
 ·simp only [bitsOf,Int.reduceEq,if_true,if_false,lC,lN,upto,List.range_succ,List.range_zero,nA,List.map_cons,List.map_nil,spB,List.foldl_cons,List.foldl_nil,QwG,List.foldr_cons,List.foldr_nil,rA,Nat.reduceSub,List.getD_cons_zero]
  rw [ZO _ _ _ _ _ (by omega) (by omega) (by omega) (by omega) (by omega)]
 ·simp only [bitsOf,Int.reduceEq,if_true,if_false,lC,lN,upto,List.range_succ,List.range_zero,nA,cA,List.map_cons,List.map_nil,spB,List.foldl_cons,List.foldl_nil,QwG,List.foldr_cons,List.foldr_nil,rA,Nat.reduceSub,List.getD_cons_zero,List.getD_cons_succ]
  rw [ZO _ _ 3 21 10 (by omega) (by omega) (by omega) (by omega) (by omega),ZO _ _ 2 20 1 (by omega) (by omega) (by omega) (by omega) (by omega),ZO _ _ 1 12 8 (by omega) (by omega) (by omega) (by omega) (by omega),ZO _ _ 0 31 1 (by omega) (by omega) (by omega) (by omega) (by omega)]
 ·rfl
variable {x:Value} {I:Imm}
theorem Qn9 {ρ:Names} {k:IntKind} {n:Int} (h:VR I ρ (.int k n) x):x=.int k n:=by cases h; rfl
theorem vr_pr {a b:Nat} {j:Nat} {g:Nat→Value} (h:∀ (i:Nat) (c:V),(pr a b).cells[i]?=some c→VR I noNames c (g i)):g 0=.int .i64 (a:Int)∧g 1=.int .i64 (b:Int) :=
 ⟨Qn9 (h 0 (.int .i64 a) rfl),Qn9 (h 1 (.int .i64 b) rfl)⟩
theorem Qwt {w:World} {l:List (Nat × Nat)} (hI:∀ b o x,I b o=some x→w.cell? ⟨b,o,none⟩=some x) (h:VR I noNames (Qsn l) x) :
 ∃ a cap,x=.slice a l.length cap∧BitsAt w.heap.size w x l.length (fun j=>l.getD j (0,0)):=by
 cases l with
 | nil =>
   cases h with
   | lst _ _ _ _ _ _ _ _ h0=>exact absurd rfl h0
   | lstN _ _ _ a cap h0=>exact ⟨a,cap,rfl,.inl ⟨a,cap,rfl,rfl⟩⟩
 | cons p l =>
   generalize hv:Qsn (p::l)=v at h
   have e:v=.lst 2 ((p::l).map fun b=>pr b.1 b.2) true:=hv.symm
   rw [e] at h
   cases h with
   | lst _ _ _ _ b o cap g h0 h1 h2 h3 h4 h5 =>
     have hlen:((p::l).map fun b=>pr b.1 b.2).length=(p::l).length:=by simp
     have key:∀ j,j<(p::l).length→I b (o+j * 2)=some (.int .i64 (((p::l).getD j (0,0)).1:Int))∧I b (o+j * 2+1)=some (.int .i64 (((p::l).getD j (0,0)).2:Int)):=by
      intro j hj
      obtain ⟨q,hq⟩:∃ q,(p::l)[j]?=some q:=⟨_,List.getElem?_eq_getElem hj⟩
      have hm:((p::l).map fun b=>pr b.1 b.2)[j]?=some (pr q.1 q.2):=by rw [List.getElem?_map,hq]; rfl
      have hgd:(p::l).getD j (0,0)=q:=by rw [List.getD_eq_getElem?_getD,hq]; rfl
      obtain ⟨e1,e2⟩:=vr_pr (j:=j) (h5 j _ hm)
      rw [hgd]
      have a0:=h4 j _ hm 0 (.int .i64 q.1) rfl
      have a1:=h4 j _ hm 1 (.int .i64 q.2) rfl
      rw [e1] at a0
      rw [e2] at a1
      exact ⟨a0,a1⟩
     rw [hlen]
     refine ⟨_,cap,rfl,.inr ⟨b,o,cap,rfl,?_,fun j hj=>⟨hI _ _ _ (key j hj).1,hI _ _ _ (key j hj).2⟩⟩⟩
     exact block_lt_of_cell (hI _ _ _ (key 0 (by simp)).1)
theorem Qys {G:Nat→Option V} (n:Int) (h:f=82∨f=87∨f=73∨f=72∨f=83∨f=66∨f=85∨f=74∨f=69) :
 Pure Tryz.prog G Qff [.agg (Qlp f),.int .i64 n] fun v=>v=.int .u32 (Qm0 f n):=by
 refine Qm8 (fun I w xs _ hI hc=>?_) (by rcases h with rfl | rfl | rfl | rfl | rfl | rfl | rfl | rfl | rfl <;> rfl)
 obtain ⟨hs,hv⟩:=hc
 obtain ⟨x0,x1,rfl⟩:∃ x0 x1,xs=#[x0,x1]:=by
  obtain ⟨l⟩:=xs
  simp at hs
  match l,hs with
  | [a,b],_=>exact ⟨a,b,rfl⟩
 have h0:=hv 0 _ x0 rfl rfl
 have h1:=Qn9 (hv 1 _ x1 rfl rfl)
 subst h1
 cases h0 with
 | agg _ _ cs hl hcs =>
   obtain ⟨v0,v1,v2,v3,v4,v5,v6,rfl⟩:∃ v0 v1 v2 v3 v4 v5 v6,cs=#[v0,v1,v2,v3,v4,v5,v6]:=by
    obtain ⟨l⟩:=cs
    simp [Qlp] at hl
    match l,hl with
    | [a,b,c,d,e,f,g],_=>exact ⟨a,b,c,d,e,f,g,rfl⟩
   have g3:=hcs 3 _ v3 rfl rfl
   have g4:=Qn9 (hcs 4 _ v4 rfl rfl)
   have g6:=Qn9 (hcs 6 _ v6 rfl rfl)
   subst g4 g6
   obtain ⟨a,cap,rfl,hb⟩:=Qwt hI g3
   have hz:Qed f≤30:=by rcases h with rfl | rfl | rfl | rfl | rfl | rfl | rfl | rfl | rfl <;> decide
   have hlen:(bitsOf f).length≤1000:=by rcases h with rfl | rfl | rfl | rfl | rfl | rfl | rfl | rfl | rfl <;> decide
   have:=(callsIn_wide (n:=3)).1 (Qvc 3 (by omega) v0 v1 v2 v5 a (bitsOf f).length cap (Qed f) (QcF f) n hz (fun j=>(bitsOf f).getD j (0,0)) hlen w hb)
   refine this.mono fun e w' ⟨he,hw⟩=>?_
   rw [sp_eq _ h] at he
   exact ⟨_,_,he,.int _ _ _,rfl,rfl,⟨hw.os,hw.tape,hw.output,hw.size,hw.block⟩⟩
variable {P:Program} {G:Nat→Option V}
section
attribute [local go_sem] nF nT aZ lR zA zL decide_true Qd9 QbS zqt_0 zqt_1 zq9_0 zq9_1 zq9_2 zq9_3 zq9_4 zq9_5 zq9_6 zq9_7
def inC (x:In):List V:=[.int .u8 x.op,.int .u8 x.rd,.int .u8 x.rs1,.int .u8 x.rs2,.int .i64 x.imm]
def Zq (x:In):Prop:=(0≤x.op∧x.op≤255)∧(0≤x.rd∧x.rd≤255)∧(0≤x.rs1∧x.rs1≤255)∧(0≤x.rs2∧x.rs2≤255)∧i64 x.imm
theorem g0a:G0 0=some (.agg [.int .i64 7,.int .i64 5]):=rfl
theorem g0b:G0 1=some (.agg [.int .i64 15,.int .i64 5]):=rfl
theorem g0c:G0 2=some (.agg [.int .i64 20,.int .i64 5]):=rfl
theorem QGW (hT:Qk P tab) (b:Bool) (n:Int):Pure P G Qhl [.bool b,.int .u8 n] fun v=>v=.bool (decide (n<32)&&(b || decide (n=0))):=by
 intro t
 refine Qt hT QbG (by simp [QbS]) (Qn 1000 ?_)
 simp -implicitDefEqProofs (disch:=omega) only [go_sem,↓reduceIte,reduceCtorEq,rA,rq]
 by_cases h:n<32 <;> cases b <;> simp [h]
 rfl
theorem Qnw (hT:Qk Tryz.prog tab) (x:In) (hx:Zq x):Pure Tryz.prog G0 Qlc [.agg (inC x)] fun v=>v=.tup [.int .u32 (enc T x).1,.int .i64 (enc T x).2]:=by
 obtain ⟨⟨o0,o1⟩,⟨a0,a1⟩,⟨b0,b1⟩,⟨c0,c1⟩,hi⟩:=hx
 by_cases hop:1≤x.op∧x.op≤65
 ·obtain ⟨r,hk⟩:∃ r,T[(x.op - 1).toNat]?=some r:=⟨_,List.getElem?_eq_getElem (by rw [QbF]; omega)⟩
  have hrow:rowOf x.op=QlV r:=by
   unfold rowOf
   rw [if_pos hop]
   have:x.op.toNat - 1=(x.op - 1).toNat:=by omega
   rw [this,List.getD_eq_getElem?_getD,hk]; rfl
  have hf:=QjO (ZS r (List.mem_of_getElem? hk))
  have he:enc T x=if x.rd > 31∨x.rs1 > 31∨x.rs2 > 31∨(QW r.form=false∧x.rd≠0)∨(Q1 r.form=false∧x.rs1≠0)∨(Q5 r.form=false∧x.rs2≠0)∨((r.form=82∨r.form=69)∧x.imm≠0) then (0,100)
   else if room r.form x.imm=false then (0,101)
   else (Qv r+x.rd * 128+x.rs1 * 32768+x.rs2 * 1048576+spread r.form x.imm,0):=by
   unfold enc; rw [if_pos (by rw [QbF]; exact hop),hk]
  intro t
  obtain ⟨y,hy,hyl⟩:=Qen (bitsOf r.form)
  refine Qp 0 (zL _) (Qt hT Qbw (by simp [Qd9]) (Qn 1000 ?_))
  simp -implicitDefEqProofs (disch:=omega) only [go_sem,↓reduceIte,reduceCtorEq,rA,rq,rL,inC]
  refine QN hT Qhu (Qwf hT x.op o0 o1) rfl 1000 fun v hv=>?_
  subst hv
  rw [hrow]
  have hbl:(bitsOf r.form).length=0↔(r.form=82∨r.form=69):=by rcases hf with h | h | h | h | h | h | h | h | h <;> rw [h] <;> simp [bitsOf]
  have bad:(x.rd > 31∨x.rs1 > 31∨x.rs2 > 31∨(QW r.form=false∧x.rd≠0)∨(Q1 r.form=false∧x.rs1≠0)∨(Q5 r.form=false∧x.rs2≠0)∨((r.form=82∨r.form=69)∧x.imm≠0))→enc T x=(0,100):=fun h=>by rw [he,if_pos h]
  have m1:=QGW (G:=G0) hT (QW r.form) x.rd
  have m2:=QGW (G:=G0) hT (Q1 r.form) x.rs1
  have m3:=QGW (G:=G0) hT (Q5 r.form) x.rs2
  have bb:∀ (b:Bool) (n:Int),(decide (n<32)&&(b || decide (n=0)))=false→n > 31∨(b=false∧n≠0):=fun b n h=>by
   by_cases h1:n<32
   ·cases b <;> simp [h1] at h; exact .inr ⟨rfl,h⟩
   ·exact .inl (by omega)
  have bt:∀ (b:Bool) (n:Int),(decide (n<32)&&(b || decide (n=0)))=true→n≤31∧(b=false→n=0):=fun b n h=>by
   simp only [Bool.and_eq_true,decide_eq_true_eq,Bool.or_eq_true] at h
   exact ⟨by omega,fun hb=>by rw [hb] at h; simpa using h.2⟩
  simp -implicitDefEqProofs (disch:=omega) only [go_sem,↓reduceIte,reduceCtorEq,rA,rq,rL,rT,QlV,Qlp,hy,hop]
  refine QN hT QbG m1 rfl 1000 fun v hv=>?_
  subst hv
  cases q1:(decide (x.rd<32)&&(QW r.form || decide (x.rd=0))) with
  | false =>
    simp -implicitDefEqProofs (disch:=omega) only [go_sem,↓reduceIte,reduceCtorEq,rA,rq]
    rw [bad (by rcases bb _ _ q1 with h | h; exact .inl h; exact .inr (.inr (.inr (.inl h))))]
  | true =>
    simp -implicitDefEqProofs (disch:=omega) only [go_sem,↓reduceIte,reduceCtorEq,rA,rq,rL]
    refine QN hT QbG m2 rfl 1000 fun v hv=>?_
    subst hv
    cases q2:(decide (x.rs1<32)&&(Q1 r.form || decide (x.rs1=0))) with
    | false =>
      simp -implicitDefEqProofs (disch:=omega) only [go_sem,↓reduceIte,reduceCtorEq,rA,rq]
      rw [bad (by rcases bb _ _ q2 with h | h; exact .inr (.inl h); exact .inr (.inr (.inr (.inr (.inl h)))))]
    | true =>
      simp -implicitDefEqProofs (disch:=omega) only [go_sem,↓reduceIte,reduceCtorEq,rA,rq,rL]
      refine QN hT QbG m3 rfl 1000 fun v hv=>?_
      subst hv
      cases q3:(decide (x.rs2<32)&&(Q5 r.form || decide (x.rs2=0))) with
      | false =>
        simp -implicitDefEqProofs (disch:=omega) only [go_sem,↓reduceIte,reduceCtorEq,rA,rq]
        rw [bad (by rcases bb _ _ q3 with h | h; exact .inr (.inr (.inl h)); exact .inr (.inr (.inr (.inr (.inr (.inl h))))))]
      | true =>
        obtain ⟨d1,e1⟩:=bt _ _ q1
        obtain ⟨d2,e2⟩:=bt _ _ q2
        obtain ⟨d3,e3⟩:=bt _ _ q3
        have hwd:QO (bitsOf r.form) (Qed r.form)≤60:=by rcases hf with h | h | h | h | h | h | h | h | h <;> rw [h] <;> decide
        have hl4:(bitsOf r.form).length≤4:=by rcases hf with h | h | h | h | h | h | h | h | h <;> rw [h] <;> decide
        have hb4:∀ p∈bitsOf r.form,p.1≤31∧p.2≤30:=by rcases hf with h | h | h | h | h | h | h | h | h <;> rw [h] <;> decide
        have hz4:Qed r.form≤30:=by rcases hf with h | h | h | h | h | h | h | h | h <;> rw [h] <;> decide
        have cf:=c_fits (G:=G0) hT (QW r.form) (Q1 r.form) (Q5 r.form) (bitsOf r.form) (Qed r.form) (Qlm r.form) (QcF r.form) x.imm hl4 hb4 hz4 hwd hi
        have ef:=Qya x.imm hf
        unfold QGu at ef
        simp only at ef
        have cf:Pure Tryz.prog G0 QdX [.agg (frm (QW r.form) (Q1 r.form) (Q5 r.form) (bitsOf r.form) (Qed r.form) (Qlm r.form) (QcF r.form)),.int .i64 x.imm] fun v=>v=.bool (room r.form x.imm):=by rw [← ef]; exact cf
        simp only [frm,hy] at cf
        have cs:=Qys (G:=G0) x.imm hf
        simp only [Qlp,hy] at cs
        have w1:IntKind.u32.wrap x.rd=x.rd:=wrap_u32 (by omega) (by omega)
        have w2:IntKind.u32.wrap x.rs1=x.rs1:=wrap_u32 (by omega) (by omega)
        have w3:IntKind.u32.wrap x.rs2=x.rs2:=wrap_u32 (by omega) (by omega)
        have w4:IntKind.u32.wrap (x.rd * 128)=x.rd * 128:=wrap_u32 (by omega) (by omega)
        have w5:IntKind.u32.wrap (x.rs1 * 32768)=x.rs1 * 32768:=wrap_u32 (by omega) (by omega)
        have w6:IntKind.u32.wrap (x.rs2 * 1048576)=x.rs2 * 1048576:=wrap_u32 (by omega) (by omega)
        have ct:=Qsj (G:=G0) hT [Qv r,x.rd * 128,x.rs1 * 32768,x.rs2 * 1048576,Qm0 r.form x.imm] true (by simp)
        simp only [List.map_cons,List.map_nil] at ct
        simp -implicitDefEqProofs (disch:=omega) only [go_sem,↓reduceIte,reduceCtorEq,rA,rq,rL,lM]
        refine ⟨fun hl=>⟨fun hm=>?_,fun hm=>?_⟩,fun hl=>?_⟩
        ·rw [bad (.inr (.inr (.inr (.inr (.inr (.inr ⟨hbl.1 (by omega),hm⟩))))))]
        all_goals (
         have hgood:¬((r.form=82∨r.form=69)∧x.imm≠0):=fun h=>by first | exact h.2 hm | exact hl (by have:=hbl.2 h.1; omega)
         have he2:enc T x=if room r.form x.imm=false then (0,101) else (Qv r+x.rd * 128+x.rs1 * 32768+x.rs2 * 1048576+spread r.form x.imm,0):=by
          rw [he,if_neg]
          rintro (h | h | h | h | h | h | h)
          ·omega
          ·omega
          ·omega
          ·exact h.2 (e1 h.1)
          ·exact h.2 (e2 h.1)
          ·exact h.2 (e3 h.1)
          ·exact hgood h
         refine QN hT Qhf cf rfl 1000 fun v hv=>?_
         subst hv
         cases hr:room r.form x.imm with
         | false =>
           simp -implicitDefEqProofs (disch:=omega) only [go_sem,↓reduceIte,reduceCtorEq,rA,rq]
           rw [he2,hr]; rfl
         | true =>
           simp -implicitDefEqProofs (disch:=omega) only [go_sem,↓reduceIte,reduceCtorEq,rA,rq,rL,Int.reduceToNat,Int.reduceLE,g0a,g0b,g0c,show min 7 32=7 from rfl,show min 15 32=15 from rfl,show min 20 32=20 from rfl,Int.reducePow,w1,w2,w3,w4,w5,w6]
           refine QN hT QjL cs rfl 1000 fun v hv=>?_
           subst hv
           simp -implicitDefEqProofs (disch:=omega) only [go_sem,↓reduceIte,reduceCtorEq,rA,rq,rL]
           refine QN hT Qh4 ct rfl 1000 fun v hv=>?_
           subst hv
           simp -implicitDefEqProofs (disch:=omega) only [go_sem,↓reduceIte,reduceCtorEq,rA,rq]
           rw [he2,hr,QrU _ hf hr,QF6 hk ⟨a0,d1⟩ ⟨b0,d2⟩ ⟨c0,d3⟩ e1 e2 e3 hr]
           rfl)
 ·have he:enc T x=(0,100):=by unfold enc; rw [if_neg (by rw [QbF]; exact hop)]
  have hrow:rowOf x.op=zeroC:=by unfold rowOf; rw [if_neg hop]
  intro t
  refine Qp 0 (zL _) (Qt hT Qbw (by simp [Qd9]) (Qn 1000 ?_))
  simp -implicitDefEqProofs (disch:=omega) only [go_sem,↓reduceIte,reduceCtorEq,rA,rq,rL,inC]
  refine QN hT Qhu (Qwf hT x.op o0 o1) rfl 1000 fun v hv=>?_
  subst hv
  rw [hrow]
  have hop':decide (1≤x.op∧x.op≤65)=false:=by simpa using hop
  rw [hop']
  simp -implicitDefEqProofs (disch:=omega) only [go_sem,↓reduceIte,reduceCtorEq,rA,rq,rT,zeroC]
  rw [he]
end
end Go.Proofs.YtaidbdgndljaeaaGreatDoor
namespace Go.Proofs.YtaidbdgndljaeaaGreatDoor
open Go Go.Am Go.Rv Go.Rg
set_option maxRecDepth 100000
variable {P:Program}
section
attribute [local go_sem] nF nT aZ lR Nat.mul_one Nat.one_mul Nat.succ_ne_zero zA zL Nat.zero_mul Option.getD_none Option.getD_some Option.isSome_none Option.isSome_some and_true beq_self_eq_true bne_self_eq_false decide_false decide_true false_implies ge_iff_le gt_iff_lt inC Qw not_false_eq_true not_true_eq_false Qgb zqr_0 zqr_1 zqr_2 zqr_3 zqr_4 zqr_5 true_and true_implies
theorem Qws (l:List (Nat × Nat)):∃ sz L q,Qsn l=.lst sz L q:=by
 cases l <;> exact ⟨_,_,_,rfl⟩
theorem Qvo (op:Int):∃ a b sz L q z s m c,rowOf op=[.bool (QW (rro op).form),.bool a,.bool b,.lst sz L q,.int .i64 z,.bool s,.int .u32 m,.str (rro op).name,.int .u32 c]:=by
 unfold rowOf rro
 split
 ·generalize T.getD (op.toNat - 1) ⟨0,[],0,0,0⟩=r
  obtain ⟨sz,L,q,h⟩:=Qws (bitsOf r.form)
  exact ⟨Q1 r.form,Q5 r.form,sz,L,q,Qed r.form,Qlm r.form,QcF r.form,Qv r,by rw [← h]; rfl⟩
 ·exact ⟨false,false,0,[],true,0,false,0,0,rfl⟩
theorem QHi:∀ r∈T,(r.form=82∨r.form=87∨r.form=73∨r.form=72∨r.form=83∨r.form=66∨r.form=85∨r.form=74∨r.form=69)∧r.name.length≤10:=by decide +kernel
def Forms (f:Int):Prop:=f=82∨f=87∨f=73∨f=72∨f=83∨f=66∨f=85∨f=74∨f=69∨f=0
theorem Qvl (op:Int):Forms (rro op).form:=by
 unfold rro
 split
 ·rename_i h
  rw [List.getD_eq_getElem?_getD]
  obtain ⟨r,hk⟩:∃ r,T[op.toNat - 1]?=some r:=⟨_,List.getElem?_eq_getElem (by rw [QbF]; omega)⟩
  rw [hk]
  have:=(QHi r (List.mem_of_getElem? hk)).1
  simp only [Option.getD_some]
  unfold Forms; omega
 ·simp [Forms]
theorem Qrx (hT:Qk Tryz.prog tab) (x:In) (hx:Zq x):Pure Tryz.prog G0 Qlb [.agg (inC x)] fun u=>u=.tup [.int .u8 (wrs x).1,.bool (wrs x).2]:=by
 intro t
 have hE:=Qnw hT x hx
 have hO:=Qwf hT x.op hx.1.1 hx.1.2
 obtain ⟨a,b,sz,L,q,z,s,m,c,hr⟩:=Qvo x.op
 rw [hr] at hO
 refine Qp 0 (zL _) (Qt hT Qhv (by simp [Qgb]) (Qn 14 ?_))
 simp -implicitDefEqProofs (disch:=omega) only [go_sem,↓reduceIte,reduceCtorEq,rA,rq]
 iterate 9 (try (refine Qa 4 ?_; simp -implicitDefEqProofs (disch:=omega) only [go_sem,↓reduceIte,reduceCtorEq,rA,rq,rL,rT,Nat.reduceSub,Nat.reduceMul,Int.reduceToNat,Int.reduceLE,Int.reduceLT,Int.reduceEq,Int.reduceNe,Nat.reduceBEq,Nat.reduceBNe,Int.reduceBEq,Int.reduceBNe]))
 refine Qf hT Qbw hE rfl 4 ?_
 simp -implicitDefEqProofs (disch:=omega) only [go_sem,↓reduceIte,reduceCtorEq,rA,rq,rT]
 iterate 9 (try (refine Qa 4 ?_; simp -implicitDefEqProofs (disch:=omega) only [go_sem,↓reduceIte,reduceCtorEq,rA,rq,rL]))
 by_cases h1:(enc T x).2=0
 ·by_cases h2:QW (rro x.op).form=true
  ·by_cases h3:x.rd=0
   ·have hw:wrs x=(0,false):=if_neg (by simp [h3])
    have h3':(x.rd==0)=true:=by simp [h3]
    rw [h2] at hO
    refine Qf hT Qhu hO rfl 4 ?_
    simp -implicitDefEqProofs (disch:=omega) only [go_sem,↓reduceIte,reduceCtorEq,rA,rq,rT,h1]
    iterate 16 (try (refine Qa 4 ?_; simp -implicitDefEqProofs (disch:=omega) only [go_sem,↓reduceIte,reduceCtorEq,rA,rq,rL,h3',hw]))
   ·have hw:wrs x=(x.rd,true):=if_pos ⟨h1,h2,h3⟩
    have h3':(x.rd==0)=false:=by simpa using h3
    rw [h2] at hO
    refine Qf hT Qhu hO rfl 4 ?_
    simp -implicitDefEqProofs (disch:=omega) only [go_sem,↓reduceIte,reduceCtorEq,rA,rq,rT,h1]
    iterate 16 (try (refine Qa 4 ?_; simp -implicitDefEqProofs (disch:=omega) only [go_sem,↓reduceIte,reduceCtorEq,rA,rq,rL,h3',hw]))
  ·have hw:wrs x=(0,false):=if_neg (by simp [h2])
   rw [Bool.eq_false_iff.2 h2] at hO
   refine Qf hT Qhu hO rfl 4 ?_
   simp -implicitDefEqProofs (disch:=omega) only [go_sem,↓reduceIte,reduceCtorEq,rA,rq,rT,h1]
   iterate 16 (try (refine Qa 4 ?_; simp -implicitDefEqProofs (disch:=omega) only [go_sem,↓reduceIte,reduceCtorEq,rA,rq,rL,hw]))
 ·have hw:wrs x=(0,false):=if_neg (by simp [h1])
  have h1':((enc T x).2==0)=false:=by simpa using h1
  have h1'':((enc T x).2=0)=False:=eq_false h1
  refine Qf hT Qhu hO rfl 4 ?_
  simp -implicitDefEqProofs (disch:=omega) only [go_sem,↓reduceIte,reduceCtorEq,rA,rq,rT]
  iterate 16 (try (refine Qa 4 ?_; simp -implicitDefEqProofs (disch:=omega) only [go_sem,↓reduceIte,reduceCtorEq,rA,rq,h1',bne,hw]))
end
end Go.Proofs.YtaidbdgndljaeaaGreatDoor
namespace Go.Proofs.YtaidbdgndljaeaaGreatDoor
open Go Go.Am
set_option maxRecDepth 100000
variable {P:Program} {G:Nat→Option V}
section
attribute [local go_sem] nF Int.lt_irrefl lC lN aZ lR Nat.mul_one Nat.succ_ne_zero zA zL and_true beq_self_eq_true bne_self_eq_false QaG QyX QyW Z9 QyV QyU decide_false decide_true false_implies gt_iff_lt not_false_eq_true not_true_eq_false Qc2 Qzy Qzx Xq QzS QzR Qty Qtx Qtw Qtv Qtu Qtt Qts QzQ QzP QzO QzN QzM QzL QzK QzJ QS QzI QzH Qto Qtn Qtm QzG QzF QzE QzD QzC QzB QzA Qzz QX Qzc Qzb Qza Qy9 Qy8 Qy7 Qy6 Qy5 XO QzU QzT QT Qy4 Qy3 Qy2 Qy1 Qy0 QyZ QyY Xg Qzm Qzl Qtf Qte Qtd Qtc Qtb Qta Qs9 Qs8 Qs7 Qs6 Qzk Qs5 Qs4 Qs3 Qs2 Qs1 Qs0 QsZ QsY QsX QsW Qzj QsV Qzi Qzh Qzg Qzf Qze Qzd true_and true_implies
theorem Qqh:((2:Nat):Int)=2:=rfl
theorem QGS:((1:Nat):Int)=1:=rfl
theorem QGX (hT:Qk P tab) (a:Int):Pure P G Qef [.int .u8 a] fun u=>u=.bool false:=by
 intro t
 refine Qp 0 (zL _) (Qt hT Qd5 (by simp [Z9]) (Qn 1000 ?_))
 simp -implicitDefEqProofs (disch:=omega) only [go_sem,↓reduceIte,reduceCtorEq,rq]
theorem c_Less (hT:Qk P tab) (a b:Int):Pure P G Qfh [.int .u8 a,.int .u8 b] fun u=>u=.bool (decide (a<b)):=by
 intro t
 refine Qp 0 (zL _) (Qt hT Qca (by simp [QaG]) (Qn 1000 ?_))
 simp -implicitDefEqProofs (disch:=omega) only [go_sem,↓reduceIte,reduceCtorEq,rq]
 refine Qf hT Qd5 (QGX hT a) rfl 1000 ?_
 simp -implicitDefEqProofs (disch:=omega) only [go_sem,↓reduceIte,reduceCtorEq,rA,rq]
def h3 (X B:Option Ob) (w:Nat) (cs:List V):List (Option Ob):=[X,B,some (.arr w 5 cs)]
variable {X B:Option Ob} {t w:Nat}
theorem c_ins2 (hT:Qk P tab) (a b:Int) :
 C P G 0 YQ [.sl 2 w 0 1 2 none,.int .i64 0,.int .i64 2] ⟨t,h3 X B w [.int .u8 a,.int .u8 b]⟩ fun v σ=>v=.tup []∧σ=⟨t,h3 X B w (if b<a then [.int .u8 b,.int .u8 a] else [.int .u8 a,.int .u8 b])⟩:=by
 have hL:=c_Less (P:=P) (G:=G) hT b a
 have w1:IntKind.i64.wrap (0+1)=1:=by decide
 have w2:IntKind.i64.wrap (1+1)=2:=by decide
 have w3:IntKind.i64.wrap (1 - 1)=0:=by decide
 refine Qt hT YH (by simp [QT]) (Qn 1000 ?_)
 simp -implicitDefEqProofs (disch:=omega) only [go_sem,↓reduceIte,reduceCtorEq,rA,rq,h3,w1]
 refine Y6 2 40 ?_
 by_cases h:b<a
 ·have h':decide (b<a)=true:=decide_eq_true h
  rw [h'] at hL
  rw [if_pos h]
  simp -implicitDefEqProofs (disch:=omega) only [go_sem,↓reduceIte,reduceCtorEq,rq,Int.reduceLT]
  refine Y6 2 4 ?_
  simp -implicitDefEqProofs (disch:=omega) only [go_sem]
  iterate 9 (try (refine Qa 4 ?_; simp -implicitDefEqProofs (disch:=omega) only [go_sem,↓reduceIte,reduceCtorEq,rA,rq,rL,rT,Int.reduceToNat,Int.reduceLE,Int.reduceLT,w3]))
  refine Qf hT Qca hL rfl 4 ?_
  simp -implicitDefEqProofs (disch:=omega) only [go_sem,↓reduceIte,reduceCtorEq,rq]
  iterate 16 (try (refine Qa 9 ?_; simp -implicitDefEqProofs (disch:=omega) only [go_sem,↓reduceIte,reduceCtorEq,rA,rq,rL,rT,Int.reduceToNat,Int.reduceLE,w2,w3]))
 ·have h':decide (b<a)=false:=decide_eq_false h
  rw [h'] at hL
  rw [if_neg h]
  simp -implicitDefEqProofs (disch:=omega) only [go_sem,↓reduceIte,reduceCtorEq,rq,Int.reduceLT]
  refine Y6 2 4 ?_
  simp -implicitDefEqProofs (disch:=omega) only [go_sem]
  iterate 9 (try (refine Qa 4 ?_; simp -implicitDefEqProofs (disch:=omega) only [go_sem,↓reduceIte,reduceCtorEq,rA,rq,rL,rT,Int.reduceToNat,Int.reduceLE,Int.reduceLT,w3]))
  refine Qf hT Qca hL rfl 4 ?_
  simp -implicitDefEqProofs (disch:=omega) only [go_sem,↓reduceIte,reduceCtorEq,rq]
  iterate 16 (try (refine Qa 9 ?_; simp -implicitDefEqProofs (disch:=omega) only [go_sem,↓reduceIte,reduceCtorEq,rq,w2]))
theorem c_pdq2 (hT:Qk P tab) (a b l:Int) :
 C P G 0 Zv [.sl 2 w 0 1 2 none,.int .i64 0,.int .i64 2,.int .i64 l] ⟨t,h3 X B w [.int .u8 a,.int .u8 b]⟩ fun v σ=>v=.tup []∧σ=⟨t,h3 X B w (if b<a then [.int .u8 b,.int .u8 a] else [.int .u8 a,.int .u8 b])⟩:=by
 have w1:IntKind.i64.wrap (2 - 0)=2:=by decide
 refine Qt hT Zr (by simp [Xg]) (Qn 1000 ?_)
 simp -implicitDefEqProofs (disch:=omega) only [go_sem,↓reduceIte,reduceCtorEq,rA,rq,h3]
 refine Y6 1 40 ?_
 simp -implicitDefEqProofs (disch:=omega) only [go_sem,↓reduceIte,reduceCtorEq,rq,Int.reduceLE,w1]
 refine call hT YH (c_ins2 hT a b) 40 fun v σ hv=>?_
 obtain ⟨rfl,rfl⟩:=hv
 simp -implicitDefEqProofs (disch:=omega) only [go_sem,↓reduceIte,reduceCtorEq,rq,h3]
def QGm:V→Bool
 | .int .i64 n=>decide (n=2)
 | _=>false
theorem QxX (v:V) (h:QGm v=true):Qd v=true∧v=.int .i64 2:=by
 unfold QGm at h
 split at h
 ·simp at h; subst h; exact ⟨rfl,rfl⟩
 ·cases h
theorem c_Len (hT:Qk P tab):Pure P G Qgj [.int .u64 2] fun u=>u=.int .i64 2 :=
 run_pure hT 100 10 (.int .i64 2) QGm QxX rfl (by kernel_rfl)
theorem QG1 (hT:Qk P tab) (a b:Int) :
 C P G 0 Qaz [.sl 2 w 0 1 2 none] ⟨t,h3 X B w [.int .u8 a,.int .u8 b]⟩ fun v σ=>v=.tup []∧σ=⟨t,h3 X B w (if b<a then [.int .u8 b,.int .u8 a] else [.int .u8 a,.int .u8 b])⟩:=by
 have w1:IntKind.u64.wrap 2=2:=by decide
 refine Qt hT Qaw (by simp [XO]) (Qn 1000 ?_)
 simp -implicitDefEqProofs (disch:=omega) only [go_sem,↓reduceIte,reduceCtorEq,rq,h3,Qqh,w1]
 refine Qf hT Qk0 (c_Len hT) rfl 40 ?_
 simp -implicitDefEqProofs (disch:=omega) only [go_sem,↓reduceIte,reduceCtorEq,rq]
 refine call hT Zr (c_pdq2 hT a b 2) 40 fun v σ hv=>?_
 obtain ⟨rfl,rfl⟩:=hv
 simp -implicitDefEqProofs (disch:=omega) only [go_sem,↓reduceIte,reduceCtorEq,rq,h3]
theorem Qjf (hT:Qk P tab) (a b:Int) :
 C P G 0 ZP [.sl 2 w 0 1 2 none] ⟨t,h3 X B w [.int .u8 a,.int .u8 b]⟩ fun v σ=>(a=b∧v=.sl 2 w 0 1 1 none∧σ=⟨t,h3 X B w [.int .u8 a,.int .u8 0]⟩)∨(a≠b∧v=.sl 2 w 0 1 2 none∧σ=⟨t,h3 X B w [.int .u8 a,.int .u8 b]⟩):=by
 have w2:IntKind.i64.wrap (1+1)=2:=by decide
 have w3:IntKind.i64.wrap (1 - 1)=0:=by decide
 refine Qt hT XK (by simp [Xq]) (Qn 1000 ?_)
 simp -implicitDefEqProofs (disch:=omega) only [go_sem,↓reduceIte,reduceCtorEq,rq,h3,Qqh]
 refine Y6 2 60 ?_
 by_cases h:b=a
 ·have h':(b==a)=true:=by simp [h]
  simp -implicitDefEqProofs (disch:=omega) only [go_sem,↓reduceIte,reduceCtorEq,rA,rq,rL,rT,Nat.reduceSub,Int.reduceToNat,Int.reduceLE,Int.reduceLT,Qqh,w3,h]
  refine Y6 1 40 ?_
  simp -implicitDefEqProofs (disch:=omega) only [go_sem,↓reduceIte,reduceCtorEq,rq,rL,rT,Nat.reduceSub,Int.reduceToNat,Int.reduceLE,QGS]
  simp only [evW]
  simp -implicitDefEqProofs (disch:=omega) only [go_sem,↓reduceIte,reduceCtorEq,rA,rq,rL,rT,Nat.reduceSub,Int.reduceToNat,Int.reduceLE,tS,tZ,List.drop_succ_cons,List.drop_zero,List.replicate_succ,List.replicate_zero,List.flatten_cons,List.flatten_nil,cA,nA,List.append_nil]
 ·have h':(b=a)=False:=eq_false h
  simp -implicitDefEqProofs (disch:=omega) only [go_sem,↓reduceIte,reduceCtorEq,rA,rq,rL,rT,Nat.reduceSub,Int.reduceToNat,Int.reduceLE,Int.reduceLT,Qqh,w2,w3,h']
  exact .inr fun e=>h e.symm
theorem k_z (hT:Qk P tab) (a:Int) (z:Bool) (hz:decide (a=0)=z):Pure P G Qab [.int .u8 a] fun u=>u=.bool z:=by
 intro t
 refine Qp 0 (zL _) (Qt hT Zj (by simp [Qc2]) (Qn 1000 ?_))
 simp -implicitDefEqProofs (disch:=omega) only [go_sem,↓reduceIte,reduceCtorEq,rq]
 rw [← hz]; rfl
theorem c_Idx2 (hT:Qk P tab) (a b:Int) (h:a<b) (h0:0≤a) :
 C P G 0 Yg [.sl 2 w 0 1 2 none,.fn (.func Qab) [] []] ⟨t,h3 X B w [.int .u8 a,.int .u8 b]⟩ fun v σ=>v=.int .i64 (if a=0 then 0 else -1)∧σ=⟨t,h3 X B w [.int .u8 a,.int .u8 b]⟩:=by
 have w2:IntKind.i64.wrap (1+1)=2:=by decide
 have w3:IntKind.i64.wrap (0+1)=1:=by decide
 refine Qt hT Xu (by simp [QX]) (Qn 1000 ?_)
 simp -implicitDefEqProofs (disch:=omega) only [go_sem,↓reduceIte,reduceCtorEq,rq,h3,Qqh]
 refine Y6 3 60 ?_
 simp -implicitDefEqProofs (disch:=omega) only [go_sem,↓reduceIte,reduceCtorEq,rA,rq,rL,rT,Int.reduceToNat,Int.reduceLE,Int.reduceLT]
 by_cases ha:a=0
 ·refine Qf hT Zj (k_z hT a true (decide_eq_true ha)) rfl 60 ?_
  simp -implicitDefEqProofs (disch:=omega) only [go_sem,↓reduceIte,reduceCtorEq,rq,ha]
 ·refine Qf hT Zj (k_z hT a false (decide_eq_false ha)) rfl 60 ?_
  simp -implicitDefEqProofs (disch:=omega) only [go_sem,↓reduceIte,reduceCtorEq,rA,rq,rT,Int.reduceToNat,Int.reduceLE,Int.reduceLT,w3,ha]
  refine Qf hT Zj (k_z hT b false (decide_eq_false (by omega))) rfl 60 ?_
  simp -implicitDefEqProofs (disch:=omega) only [go_sem,↓reduceIte,reduceCtorEq,rq,w2]
theorem c_Idx1 (hT:Qk P tab) (a:Int) (cs:List V) (hcs:cs.length=1) :
 C P G 0 Yg [.sl 2 w 0 1 1 none,.fn (.func Qab) [] []] ⟨t,h3 X B w (.int .u8 a::cs)⟩ fun v σ=>v=.int .i64 (if a=0 then 0 else -1)∧σ=⟨t,h3 X B w (.int .u8 a::cs)⟩:=by
 have w3:IntKind.i64.wrap (0+1)=1:=by decide
 refine Qt hT Xu (by simp [QX]) (Qn 1000 ?_)
 simp -implicitDefEqProofs (disch:=omega) only [go_sem,↓reduceIte,reduceCtorEq,rq,h3,QGS]
 refine Y6 3 60 ?_
 simp -implicitDefEqProofs (disch:=omega) only [go_sem,↓reduceIte,reduceCtorEq,rq,rL,rT,Int.reduceToNat,Int.reduceLE,Int.reduceLT]
 by_cases ha:a=0
 ·refine Qf hT Zj (k_z hT a true (decide_eq_true ha)) rfl 60 ?_
  simp -implicitDefEqProofs (disch:=omega) only [go_sem,↓reduceIte,reduceCtorEq,rq,ha]
 ·refine Qf hT Zj (k_z hT a false (decide_eq_false ha)) rfl 60 ?_
  simp -implicitDefEqProofs (disch:=omega) only [go_sem,↓reduceIte,reduceCtorEq,rq,w3,ha]
theorem QEQ (hT:Qk P tab) (a b:Int) (h:a<b) (h0:0≤a) :
 C P G 0 XY [.sl 2 w 0 1 2 none,.fn (.func Qab) [] []] ⟨t,h3 X B w [.int .u8 a,.int .u8 b]⟩ fun v σ=>∃ t',t≤t'∧((a=0∧v=.sl 2 w 0 1 1 none∧σ=⟨t',h3 X B w [.int .u8 b,.int .u8 0]⟩)∨(a≠0∧v=.sl 2 w 0 1 2 none∧σ=⟨t',h3 X B w [.int .u8 a,.int .u8 b]⟩)):=by
 have w2:IntKind.i64.wrap (1+1)=2:=by decide
 have w3:IntKind.i64.wrap (0+1)=1:=by decide
 refine Qt hT QZ (by simp [QS]) (Qn 1000 ?_)
 simp -implicitDefEqProofs (disch:=omega) only [go_sem,↓reduceIte,reduceCtorEq,rq,h3]
 refine call hT Xu (c_Idx2 hT a b h h0) 60 fun v σ hv=>?_
 obtain ⟨rfl,rfl⟩:=hv
 by_cases ha:a=0
 ·rw [if_pos ha]
  simp -implicitDefEqProofs (disch:=omega) only [go_sem,↓reduceIte,reduceCtorEq,rq,h3,Int.reduceBEq,w3,Int.reduceNeg]
  refine Y6 3 60 ?_
  simp -implicitDefEqProofs (disch:=omega) only [go_sem,↓reduceIte,reduceCtorEq,rA,rq,rT,Int.reduceToNat,Int.reduceLE,Int.reduceLT,Qqh]
  refine Qf hT Zj (k_z hT b false (decide_eq_false (by omega))) rfl 60 ?_
  simp -implicitDefEqProofs (disch:=omega) only [go_sem,↓reduceIte,reduceCtorEq,rA,rq,rL,rT,Nat.reduceSub,Int.reduceToNat,Int.reduceLE,tZ,List.drop_succ_cons,List.drop_zero,cA,nA,Qqh,w2,w3]
  try simp only [evW]
  try simp -implicitDefEqProofs (disch:=omega) only [go_sem,↓reduceIte,reduceCtorEq,rA,rq,rL,rT,Nat.reduceSub,Int.reduceToNat,Int.reduceLE,tS,tZ,List.drop_succ_cons,List.drop_zero,List.replicate_succ,List.replicate_zero,List.flatten_cons,List.flatten_nil,cA,nA,List.append_nil,ha]
  exact ⟨t,lR _,rfl⟩
 ·rw [if_neg ha]
  simp -implicitDefEqProofs (disch:=omega) only [go_sem,↓reduceIte,reduceCtorEq,rq,h3,ha,Int.reduceNeg]
  exact ⟨t,lR _,rfl⟩
theorem c_Del1 (hT:Qk P tab) (a b:Int) :
 C P G 0 XY [.sl 2 w 0 1 1 none,.fn (.func Qab) [] []] ⟨t,h3 X B w [.int .u8 a,.int .u8 b]⟩ fun v σ=>∃ t',t≤t'∧((a=0∧v=.sl 2 w 0 1 0 none∧σ=⟨t',h3 X B w [.int .u8 0,.int .u8 b]⟩)∨(a≠0∧v=.sl 2 w 0 1 1 none∧σ=⟨t',h3 X B w [.int .u8 a,.int .u8 b]⟩)):=by
 have w3:IntKind.i64.wrap (0+1)=1:=by decide
 refine Qt hT QZ (by simp [QS]) (Qn 1000 ?_)
 simp -implicitDefEqProofs (disch:=omega) only [go_sem,↓reduceIte,reduceCtorEq,rq,h3]
 refine call hT Xu (c_Idx1 hT a [.int .u8 b] rfl) 60 fun v σ hv=>?_
 obtain ⟨rfl,rfl⟩:=hv
 by_cases ha:a=0
 ·rw [if_pos ha]
  simp -implicitDefEqProofs (disch:=omega) only [go_sem,↓reduceIte,reduceCtorEq,rq,h3,Int.reduceBEq,w3,Int.reduceNeg]
  refine Y6 3 60 ?_
  simp -implicitDefEqProofs (disch:=omega) only [go_sem,↓reduceIte,reduceCtorEq,rq,rT,Nat.reduceSub,Int.reduceToNat,Int.reduceLE,QGS]
  try simp only [evW]
  try simp -implicitDefEqProofs (disch:=omega) only [go_sem,↓reduceIte,reduceCtorEq,rA,rq,rL,rT,Nat.reduceSub,Int.reduceToNat,Int.reduceLE,tZ,List.drop_succ_cons,List.drop_zero,List.replicate_succ,List.replicate_zero,List.flatten_cons,List.flatten_nil,cA,nA,List.append_nil,ha]
  exact ⟨t,lR _,rfl⟩
 ·rw [if_neg ha]
  simp -implicitDefEqProofs (disch:=omega) only [go_sem,↓reduceIte,reduceCtorEq,rq,h3,ha,Int.reduceNeg]
  exact ⟨t,lR _,rfl⟩
end
end Go.Proofs.YtaidbdgndljaeaaGreatDoor
namespace Go.Proofs.YtaidbdgndljaeaaGreatDoor
open Go Go.Am Go.Rv Go.Rg
set_option maxRecDepth 100000
variable {P:Program}
section
attribute [local go_sem] cA lC lN nA lR zA and_true bne_self_eq_false false_implies inC not_false_eq_true Qic QAl QAk QAj QAi QAh QAg QAf QAe true_implies
def us (l:List Int):List V:=l.map (V.int .u8)
theorem QpR (a b:Int):Qeb a b=Qeb b a:=by unfold Qeb; rw [Int.min_comm,Int.max_comm]
variable {a:Int}
theorem Qol {b:Int} (h:a<b) (h0:0≤a):Qeb a b=if a=0 then [b] else [a,b]:=by
 unfold Qeb
 rw [Int.min_eq_left (by omega),Int.max_eq_right (by omega),if_pos h]
 split <;> split <;> first | rfl | omega
theorem Qvq (h0:0≤a):Qeb a a=if a=0 then [] else [a]:=by
 unfold Qeb
 rw [Int.min_self,Int.max_self,if_neg (Int.lt_irrefl a)]
 split <;> split <;> first | rfl | omega
abbrev rdQ (X:Option Ob) (x:In):V→H→Prop:=fun v σ=>(rds x=[]∧v=.lst 0 [] true∧∃ t' ex,σ=⟨t',X::ex⟩)∨∃ t' w B cs,Qb cs=true∧v=.sl 2 w 0 1 (rds x).length none∧σ=⟨t',h3 X B w (us (rds x)++cs)⟩
theorem QG2 (hT:Qk Tryz.prog tab) (x:In) (hx:Zq x) {t:Nat} {X:Option Ob}:C Tryz.prog G0 0 QiO [.agg (inC x)] ⟨t,[X]⟩ (rdQ X x):=by
 have hE:=Qnw hT x hx
 obtain ⟨ho,hd,h1,h2,hi⟩:=hx
 refine Qt hT Qmy (by simp [Qic]) (Qn 1000 ?_)
 simp -implicitDefEqProofs (disch:=omega) only [go_sem,↓reduceIte,reduceCtorEq,rA,rq]
 refine Qf hT Qbw hE rfl 1000 ?_
 by_cases hok:(enc T x).2=0
 ·have hr:rds x=Qeb x.rs1 x.rs2:=if_pos hok
  simp -implicitDefEqProofs (disch:=omega) only [go_sem,↓reduceIte,reduceCtorEq,rA,rq,rL,rT,hok]
  have hS:=fun (t w:Nat) (B:Option Ob)=>QG1 (P:=Tryz.prog) (G:=G0) hT (t:=t) (w:=w) (X:=X) (B:=B) x.rs1 x.rs2
  simp only [h3] at hS
  refine call hT Qaw (hS _ _ _) 40 fun v σ hv=>?_
  obtain ⟨rfl,rfl⟩:=hv
  rcases Int.lt_trichotomy x.rs1 x.rs2 with hlt | heq | hgt
  ·have hz:=Qol hlt h1.1
   rw [if_neg (by omega)]
   simp -implicitDefEqProofs (disch:=omega) only [go_sem,↓reduceIte,reduceCtorEq,rq]
   have hK:=fun (t w:Nat) (B:Option Ob)=>Qjf (P:=Tryz.prog) (G:=G0) hT (t:=t) (w:=w) (X:=X) (B:=B) x.rs1 x.rs2
   have hD:=fun (t w:Nat) (B:Option Ob)=>QEQ (P:=Tryz.prog) (G:=G0) hT (t:=t) (w:=w) (X:=X) (B:=B) x.rs1 x.rs2 hlt h1.1
   simp only [h3] at hK hD
   refine call hT XK (hK _ _ _) 40 fun v σ hv=>?_
   rcases hv with ⟨he,_,_⟩ | ⟨_,rfl,rfl⟩
   ·omega
   simp -implicitDefEqProofs (disch:=omega) only [go_sem,↓reduceIte,reduceCtorEq,rq]
   refine call hT QZ (hD _ _ _) 40 fun v σ hv=>?_
   obtain ⟨t',_,⟨h0,rfl,rfl⟩ | ⟨h0,rfl,rfl⟩⟩:=hv
   ·rw [if_pos h0] at hz
    simp -implicitDefEqProofs (disch:=omega) only [go_sem,↓reduceIte,reduceCtorEq,rq]
    exact .inr ⟨t',_,_,[.int .u8 0],rfl,by rw [hr,hz]; rfl,by rw [hr,hz]; rfl⟩
   ·rw [if_neg h0] at hz
    simp -implicitDefEqProofs (disch:=omega) only [go_sem,↓reduceIte,reduceCtorEq,rq]
    exact .inr ⟨t',_,_,[],rfl,by rw [hr,hz]; rfl,by rw [hr,hz]; rfl⟩
  ·have hz:=Qvq h1.1
   rw [if_neg (by omega)]
   rw [← heq] at hr ⊢
   simp -implicitDefEqProofs (disch:=omega) only [go_sem,↓reduceIte,reduceCtorEq,rq]
   have hK:=fun (t w:Nat) (B:Option Ob)=>Qjf (P:=Tryz.prog) (G:=G0) hT (t:=t) (w:=w) (X:=X) (B:=B) x.rs1 x.rs1
   have hD:=fun (t w:Nat) (B:Option Ob)=>c_Del1 (P:=Tryz.prog) (G:=G0) hT (t:=t) (w:=w) (X:=X) (B:=B) x.rs1 0
   simp only [h3] at hK hD
   refine call hT XK (hK _ _ _) 40 fun v σ hv=>?_
   rcases hv with ⟨_,rfl,rfl⟩ | ⟨he,_,_⟩
   ·simp -implicitDefEqProofs (disch:=omega) only [go_sem,↓reduceIte,reduceCtorEq,rq]
    refine call hT QZ (hD _ _ _) 40 fun v σ hv=>?_
    obtain ⟨t',_,⟨h0,rfl,rfl⟩ | ⟨h0,rfl,rfl⟩⟩:=hv
    ·rw [if_pos h0] at hz
     simp -implicitDefEqProofs (disch:=omega) only [go_sem,↓reduceIte,reduceCtorEq,rq]
     exact .inr ⟨t',_,_,[.int .u8 0,.int .u8 0],rfl,by rw [hr,hz]; rfl,by rw [hr,hz]; rfl⟩
    ·rw [if_neg h0] at hz
     simp -implicitDefEqProofs (disch:=omega) only [go_sem,↓reduceIte,reduceCtorEq,rq]
     exact .inr ⟨t',_,_,[.int .u8 0],rfl,by rw [hr,hz]; rfl,by rw [hr,hz]; rfl⟩
   ·exact absurd rfl he
  ·have hz:=Qol hgt h2.1
   rw [QpR] at hr
   rw [if_pos hgt]
   simp -implicitDefEqProofs (disch:=omega) only [go_sem,↓reduceIte,reduceCtorEq,rq]
   have hK:=fun (t w:Nat) (B:Option Ob)=>Qjf (P:=Tryz.prog) (G:=G0) hT (t:=t) (w:=w) (X:=X) (B:=B) x.rs2 x.rs1
   have hD:=fun (t w:Nat) (B:Option Ob)=>QEQ (P:=Tryz.prog) (G:=G0) hT (t:=t) (w:=w) (X:=X) (B:=B) x.rs2 x.rs1 hgt h2.1
   simp only [h3] at hK hD
   refine call hT XK (hK _ _ _) 40 fun v σ hv=>?_
   rcases hv with ⟨he,_,_⟩ | ⟨_,rfl,rfl⟩
   ·omega
   simp -implicitDefEqProofs (disch:=omega) only [go_sem,↓reduceIte,reduceCtorEq,rq]
   refine call hT QZ (hD _ _ _) 40 fun v σ hv=>?_
   obtain ⟨t',_,⟨h0,rfl,rfl⟩ | ⟨h0,rfl,rfl⟩⟩:=hv
   ·rw [if_pos h0] at hz
    simp -implicitDefEqProofs (disch:=omega) only [go_sem,↓reduceIte,reduceCtorEq,rq]
    exact .inr ⟨t',_,_,[.int .u8 0],rfl,by rw [hr,hz]; rfl,by rw [hr,hz]; rfl⟩
   ·rw [if_neg h0] at hz
    simp -implicitDefEqProofs (disch:=omega) only [go_sem,↓reduceIte,reduceCtorEq,rq]
    exact .inr ⟨t',_,_,[],rfl,by rw [hr,hz]; rfl,by rw [hr,hz]; rfl⟩
 ·have hok':((enc T x).2=0)=False:=eq_false hok
  have hr:rds x=[]:=if_neg hok
  simp -implicitDefEqProofs (disch:=omega) only [go_sem,↓reduceIte,reduceCtorEq,rA,rq,rL,rT,hok']
  exact .inl ⟨hr,rfl,_,_,rfl⟩
theorem QpS (x:In):(rds x).length≤2:=by
 unfold rds Qeb
 split
 ·split <;> split <;> simp
 ·simp
theorem Qu7 {k w:Nat} (l:List Int):Qaa k w (us l) (.sl k w 0 1 l.length none)=.lst 1 (us l) false:=by
 have:=frz_sl (k:=k) (w:=w) (sz:=1) (cs:=us l) (fun u hu=>by
  obtain ⟨a,_,rfl⟩:=List.mem_map.1 hu
  rfl)
 simpa [us] using this
theorem Qw4 (l:List Int):Qd (.lst 1 (us l) false)=true:=by
 simp only [Qd]
end
end Go.Proofs.YtaidbdgndljaeaaGreatDoor
