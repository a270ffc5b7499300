/- A number put into a word: what comes of it; the QA3. -/
import Derived.Test.YtfgccihafnjalaaGreatDoorJ1
import Derived.Test.YtfgccihafnjalaaGreatDoorJ3
import Derived.Test.YtfgccihafnjalaaGreatDoorTabEq
import Derived.Test.YtfgccihafnjalaaGreatDoorAmD
import Derived.Test.YtfgccihafnjalaaGreatDoorY
open Nat renaming reduceEqDiff → rq, reduceAdd → rA, reduceLeDiff → rL, reduceLT → rT, zero_add → zA, le_refl → lR, zero_le → zL, add_zero → aZ
open List renaming length_cons → lC, length_nil → lN, take_succ_cons → tS, length_append → lA, nil_append → nA, cons_append → cA, append_assoc → aA, take_nil → tN, take_zero → tZ, length_map → lM
open Bool renaming not_false → nF, not_true → nT
namespace Go.Proofs.YtfgccihafnjalaaGreatDoor
open Go Go.Am Go.Rv
set_option maxRecDepth 100000
theorem QzX (p:Int) (y:Nat × (Nat × Nat)) (h:y.2.2≤30):QsO p y=p % 2 ^ y.2.2:=by
 have e1:min y.2.2 64=y.2.2:=by omega
 obtain ⟨g1,g2⟩:=QbD y.2.2 30 h
 have e2:IntKind.i64.wrap (2 ^ y.2.2)=2 ^ y.2.2:=wrap_i64 (by omega) (by omega)
 have e3:IntKind.i64.wrap ((2:Int) ^ y.2.2 - 1)=2 ^ y.2.2 - 1:=wrap_i64 (by omega) (by omega)
 unfold QsO QzW
 rw [e1,e2,e3]
 exact QtN .i64 y.2.2 _ _ rfl (by simp [IntKind.bits]; omega)
theorem wrap_u32 {x:Int} (h1:0≤x) (h2:x<4294967296):IntKind.u32.wrap x=x:=Zl _ (by simpa [IntKind.min,IntKind.signed] using h1) (by simp [IntKind.max,IntKind.signed,IntKind.bits]; omega)
theorem YA (p n:Int) (i a m:Nat) (hm:m≤30) (ham:a+m≤32) (h0:0≤p) (hp:p+n % 2 ^ m * 2 ^ a<4294967296) (hd:p % 2 ^ (a+m)=0∨p<2 ^ a):Qnl (p,n) (i,(a,m))=(p+n % 2 ^ m * 2 ^ a,n / 2 ^ m):=by
 have e1:min m 64=m:=by omega
 have e2:min a 32=a:=by omega
 obtain ⟨g1,g2⟩:=QbD m 30 hm
 obtain ⟨q1,q2⟩:=QbD (a+m) 32 ham
 obtain ⟨r1,_⟩:=QbD a 32 (by omega)
 have s1:=Int.emod_nonneg n (show (2:Int) ^ m≠0 by omega)
 have s2:=Int.emod_lt_of_pos n (show (0:Int)<2 ^ m by omega)
 have h1:=Int.mul_nonneg s1 (show (0:Int)≤2 ^ a by omega)
 have h2:=Int.mul_le_mul_of_nonneg_right (show n % 2 ^ m+1≤2 ^ m by omega) (show (0:Int)≤2 ^ a by omega)
 rw [Int.add_mul,Int.mul_comm (2 ^ m) (2 ^ a),← Int.pow_add] at h2
 unfold Qnl
 simp only [e1,e2,QzX _ (i,(a,m)) hm]
 rw [wrap_u32 s1 (by omega),wrap_u32 h1 (by omega)]
 congr 1
 rcases hd with hd | hd
 ·exact QxZ .u32 (a+m) _ _ h0 h1 (by omega) hd (by simp [IntKind.max,IntKind.signed,IntKind.bits]; omega)
 ·exact QIa .u32 a _ _ h0 h1 hd (Int.mul_emod_left _ _) (by simp [IntKind.max,IntKind.signed,IntKind.bits]; omega)
variable {f:Int}
theorem sp_eq (x:Int) (h:f=82∨f=87∨f=73∨f=72∨f=83∨f=66∨f=85∨f=74∨f=69) :
 (spB x (upto (fun j=>((bitsOf f).length - 1 - j,(bitsOf f).getD ((bitsOf f).length - 1 - j) (0,0))) (bitsOf f).length)).1=(Qzp (bitsOf f) x).1:=by
 rcases h with rfl | rfl | rfl | rfl | rfl | rfl | rfl | rfl | rfl
 ·rfl
 ·simp only [bitsOf,Int.reduceEq,if_true,if_false,lC,lN,upto,List.range_succ,List.range_zero,nA,List.map_cons,List.map_nil,spB,List.foldl_cons,List.foldl_nil,Qzp,List.foldr_cons,List.foldr_nil,rA,Nat.reduceSub,List.getD_cons_zero]
  rw [YA _ _ _ _ _ (by omega) (by omega) (by omega) (by omega) (by omega)]
 ·simp only [bitsOf,Int.reduceEq,if_true,if_false,lC,lN,upto,List.range_succ,List.range_zero,nA,List.map_cons,List.map_nil,spB,List.foldl_cons,List.foldl_nil,Qzp,List.foldr_cons,List.foldr_nil,rA,Nat.reduceSub,List.getD_cons_zero]
  rw [YA _ _ _ _ _ (by omega) (by omega) (by omega) (by omega) (by omega)]
 ·simp only [bitsOf,Int.reduceEq,if_true,if_false,lC,lN,upto,List.range_succ,List.range_zero,nA,List.map_cons,List.map_nil,spB,List.foldl_cons,List.foldl_nil,Qzp,List.foldr_cons,List.foldr_nil,rA,Nat.reduceSub,List.getD_cons_zero]
  rw [YA _ _ _ _ _ (by omega) (by omega) (by omega) (by omega) (by omega)]
 ·simp only [bitsOf,Int.reduceEq,if_true,if_false,lC,lN,upto,List.range_succ,List.range_zero,nA,cA,List.map_cons,List.map_nil,spB,List.foldl_cons,List.foldl_nil,Qzp,List.foldr_cons,List.foldr_nil,rA,Nat.reduceSub,List.getD_cons_zero,List.getD_cons_succ]
  rw [YA _ _ 1 7 5 (by omega) (by omega) (by omega) (by omega) (by omega),YA _ _ 0 25 7 (by omega) (by omega) (by omega) (by omega) (by omega)]
 ·simp only [bitsOf,Int.reduceEq,if_true,if_false,lC,lN,upto,List.range_succ,List.range_zero,nA,cA,List.map_cons,List.map_nil,spB,List.foldl_cons,List.foldl_nil,Qzp,List.foldr_cons,List.foldr_nil,rA,Nat.reduceSub,List.getD_cons_zero,List.getD_cons_succ]
  rw [YA _ _ 3 8 4 (by omega) (by omega) (by omega) (by omega) (by omega),YA _ _ 2 25 6 (by omega) (by omega) (by omega) (by omega) (by omega),YA _ _ 1 7 1 (by omega) (by omega) (by omega) (by omega) (by omega),YA _ _ 0 31 1 (by omega) (by omega) (by omega) (by omega) (by omega)]
 ·simp only [bitsOf,Int.reduceEq,if_true,if_false,lC,lN,upto,List.range_succ,List.range_zero,nA,List.map_cons,List.map_nil,spB,List.foldl_cons,List.foldl_nil,Qzp,List.foldr_cons,List.foldr_nil,rA,Nat.reduceSub,List.getD_cons_zero]
  rw [YA _ _ _ _ _ (by omega) (by omega) (by omega) (by omega) (by omega)]
 ·simp only [bitsOf,Int.reduceEq,if_true,if_false,lC,lN,upto,List.range_succ,List.range_zero,nA,cA,List.map_cons,List.map_nil,spB,List.foldl_cons,List.foldl_nil,Qzp,List.foldr_cons,List.foldr_nil,rA,Nat.reduceSub,List.getD_cons_zero,List.getD_cons_succ]
  rw [YA _ _ 3 21 10 (by omega) (by omega) (by omega) (by omega) (by omega),YA _ _ 2 20 1 (by omega) (by omega) (by omega) (by omega) (by omega),YA _ _ 1 12 8 (by omega) (by omega) (by omega) (by omega) (by omega),YA _ _ 0 31 1 (by omega) (by omega) (by omega) (by omega) (by omega)]
 ·rfl
variable {x:Value} {I:Imm}
theorem QqE {ρ:Names} {k:IntKind} {n:Int} (h:VR I ρ (.int k n) x):x=.int k n:=by cases h; rfl
theorem vr_pr {a b:Nat} {j:Nat} {g:Nat→Value} (h:∀ (i:Nat) (c:V),(pr a b).cells[i]?=some c→VR I noNames c (g i)):g 0=.int .i64 (a:Int)∧g 1=.int .i64 (b:Int) :=
 ⟨QqE (h 0 (.int .i64 a) rfl),QqE (h 1 (.int .i64 b) rfl)⟩
theorem Qy1 {w:World} {l:List (Nat × Nat)} (hI:∀ b o x,I b o=some x→w.cell? ⟨b,o,none⟩=some x) (h:VR I noNames (Qy0 l) x) :
 ∃ a cap,x=.slice a l.length cap∧BitsAt w.heap.size w x l.length (fun j=>l.getD j (0,0)):=by
 cases l with
 | nil =>
   cases h with
   | lst _ _ _ _ _ _ _ _ h0=>exact absurd rfl h0
   | lstN _ _ _ a cap h0=>exact ⟨a,cap,rfl,.inl ⟨a,cap,rfl,rfl⟩⟩
 | cons p l =>
   generalize hv:Qy0 (p::l)=v at h
   have e:v=.lst 2 ((p::l).map fun b=>pr b.1 b.2) true:=hv.symm
   rw [e] at h
   cases h with
   | lst _ _ _ _ b o cap g h0 h1 h2 h3 h4 h5 =>
     have hlen:((p::l).map fun b=>pr b.1 b.2).length=(p::l).length:=by simp
     have key:∀ j,j<(p::l).length→I b (o+j * 2)=some (.int .i64 (((p::l).getD j (0,0)).1:Int))∧I b (o+j * 2+1)=some (.int .i64 (((p::l).getD j (0,0)).2:Int)):=by
      intro j hj
      obtain ⟨q,hq⟩:∃ q,(p::l)[j]?=some q:=⟨_,List.getElem?_eq_getElem hj⟩
      have hm:((p::l).map fun b=>pr b.1 b.2)[j]?=some (pr q.1 q.2):=by rw [List.getElem?_map,hq]; rfl
      have hgd:(p::l).getD j (0,0)=q:=by rw [List.getD_eq_getElem?_getD,hq]; rfl
      obtain ⟨e1,e2⟩:=vr_pr (j:=j) (h5 j _ hm)
      rw [hgd]
      have a0:=h4 j _ hm 0 (.int .i64 q.1) rfl
      have a1:=h4 j _ hm 1 (.int .i64 q.2) rfl
      rw [e1] at a0
      rw [e2] at a1
      exact ⟨a0,a1⟩
     rw [hlen]
     refine ⟨_,cap,rfl,.inr ⟨b,o,cap,rfl,?_,fun j hj=>⟨hI _ _ _ (key j hj).1,hI _ _ _ (key j hj).2⟩⟩⟩
     exact block_lt_of_cell (hI _ _ _ (key 0 (by simp)).1)
theorem QA6 {G:Nat→Option V} (n:Int) (h:f=82∨f=87∨f=73∨f=72∨f=83∨f=66∨f=85∨f=74∨f=69) :
 Pure Tryz.prog G Qd9 [.agg (Qms f),.int .i64 n] fun v=>v=.int .u32 (Qpf f n):=by
 refine QhS (fun I w xs _ hI hc=>?_) (by rcases h with rfl | rfl | rfl | rfl | rfl | rfl | rfl | rfl | rfl <;> rfl)
 obtain ⟨hs,hv⟩:=hc
 obtain ⟨x0,x1,rfl⟩:∃ x0 x1,xs=#[x0,x1]:=by
  obtain ⟨l⟩:=xs
  simp at hs
  match l,hs with
  | [a,b],_=>exact ⟨a,b,rfl⟩
 have h0:=hv 0 _ x0 rfl rfl
 have h1:=QqE (hv 1 _ x1 rfl rfl)
 subst h1
 cases h0 with
 | agg _ _ cs hl hcs =>
   obtain ⟨v0,v1,v2,v3,v4,v5,v6,rfl⟩:∃ v0 v1 v2 v3 v4 v5 v6,cs=#[v0,v1,v2,v3,v4,v5,v6]:=by
    obtain ⟨l⟩:=cs
    simp [Qms] at hl
    match l,hl with
    | [a,b,c,d,e,f,g],_=>exact ⟨a,b,c,d,e,f,g,rfl⟩
   have g3:=hcs 3 _ v3 rfl rfl
   have g4:=QqE (hcs 4 _ v4 rfl rfl)
   have g6:=QqE (hcs 6 _ v6 rfl rfl)
   subst g4 g6
   obtain ⟨a,cap,rfl,hb⟩:=Qy1 hI g3
   have hz:Qdu f≤30:=by rcases h with rfl | rfl | rfl | rfl | rfl | rfl | rfl | rfl | rfl <;> decide
   have hlen:(bitsOf f).length≤1000:=by rcases h with rfl | rfl | rfl | rfl | rfl | rfl | rfl | rfl | rfl <;> decide
   have:=(callsIn_wide (n:=3)).1 (QxE 3 (by omega) v0 v1 v2 v5 a (bitsOf f).length cap (Qdu f) (QbM f) n hz (fun j=>(bitsOf f).getD j (0,0)) hlen w hb)
   refine this.mono fun e w' ⟨he,hw⟩=>?_
   rw [sp_eq _ h] at he
   exact ⟨_,_,he,.int _ _ _,rfl,rfl,⟨hw.os,hw.tape,hw.output,hw.size,hw.block⟩⟩
variable {P:Program} {G:Nat→Option V}
section
attribute [local go_sem] nF nT aZ lR zA zL decide_true Qc1 Qaz QCL QCK QDK QDJ QDI QDH QDG QDF QDE QDD
def inC (x:In):List V:=[.int .u8 x.op,.int .u8 x.rd,.int .u8 x.rs1,.int .u8 x.rs2,.int .i64 x.imm]
def InOk (x:In):Prop:=(0≤x.op∧x.op≤255)∧(0≤x.rd∧x.rd≤255)∧(0≤x.rs1∧x.rs1≤255)∧(0≤x.rs2∧x.rs2≤255)∧i64 x.imm
theorem g0a:G0 0=some (.agg [.int .i64 7,.int .i64 5]):=rfl
theorem g0b:G0 1=some (.agg [.int .i64 15,.int .i64 5]):=rfl
theorem g0c:G0 2=some (.agg [.int .i64 20,.int .i64 5]):=rfl
theorem QI7 (hT:Qh P tab) (b:Bool) (n:Int):Pure P G Qgy [.bool b,.int .u8 n] fun v=>v=.bool (decide (n<32)&&(b || decide (n=0))):=by
 intro t
 refine Q0 hT Qao (by simp [Qaz]) (Ql 1000 ?_)
 refine ya ?_
 by_cases h:n<32 <;> cases b <;> simp [h]
 rfl
theorem QBc (hT:Qh Tryz.prog tab) (x:In) (hx:InOk x):Pure Tryz.prog G0 QgT [.agg (inC x)] fun v=>v=.tup [.int .u32 (enc T x).1,.int .i64 (enc T x).2]:=by
 obtain ⟨⟨o0,o1⟩,⟨a0,a1⟩,⟨b0,b1⟩,⟨c0,c1⟩,hi⟩:=hx
 by_cases hop:1≤x.op∧x.op≤65
 ·obtain ⟨r,hk⟩:∃ r,T[(x.op - 1).toNat]?=some r:=⟨_,List.getElem?_eq_getElem (by rw [QtP]; omega)⟩
  have hrow:rowOf x.op=Qnn r:=by
   unfold rowOf
   rw [if_pos hop]
   have:x.op.toNat - 1=(x.op - 1).toNat:=by omega
   rw [this,List.getD_eq_getElem?_getD,hk]; rfl
  have hf:=forms (Qsi r (List.mem_of_getElem? hk))
  have he:enc T x=if x.rd > 31∨x.rs1 > 31∨x.rs2 > 31∨(Zy r.form=false∧x.rd≠0)∨(ZW r.form=false∧x.rs1≠0)∨(QaH r.form=false∧x.rs2≠0)∨((r.form=82∨r.form=69)∧x.imm≠0) then (0,100)
   else if room r.form x.imm=false then (0,101)
   else (Yq r+x.rd * 128+x.rs1 * 32768+x.rs2 * 1048576+spread r.form x.imm,0):=by
   unfold enc; rw [if_pos (by rw [QtP]; exact hop),hk]
  intro t
  obtain ⟨y,hy,hyl⟩:=Qdj (bitsOf r.form)
  refine Xq 0 (zL _) (Q0 hT QgL (by simp [Qc1]) (Ql 1000 ?_))
  simp -implicitDefEqProofs (disch:=omega) only [go_sem,↓reduceIte,reduceCtorEq,rA,rq,rL,inC]
  refine QaO hT QsF (QFr hT x.op o0 o1) rfl 1000 fun v hv=>?_
  subst hv
  rw [hrow]
  have hbl:(bitsOf r.form).length=0↔(r.form=82∨r.form=69):=by rcases hf with h | h | h | h | h | h | h | h | h <;> rw [h] <;> simp [bitsOf]
  have bad:(x.rd > 31∨x.rs1 > 31∨x.rs2 > 31∨(Zy r.form=false∧x.rd≠0)∨(ZW r.form=false∧x.rs1≠0)∨(QaH r.form=false∧x.rs2≠0)∨((r.form=82∨r.form=69)∧x.imm≠0))→enc T x=(0,100):=fun h=>by rw [he,if_pos h]
  have m1:=QI7 (G:=G0) hT (Zy r.form) x.rd
  have m2:=QI7 (G:=G0) hT (ZW r.form) x.rs1
  have m3:=QI7 (G:=G0) hT (QaH r.form) x.rs2
  have bb:∀ (b:Bool) (n:Int),(decide (n<32)&&(b || decide (n=0)))=false→n > 31∨(b=false∧n≠0):=fun b n h=>by
   by_cases h1:n<32
   ·cases b <;> simp [h1] at h; exact .inr ⟨rfl,h⟩
   ·exact .inl (by omega)
  have bt:∀ (b:Bool) (n:Int),(decide (n<32)&&(b || decide (n=0)))=true→n≤31∧(b=false→n=0):=fun b n h=>by
   simp only [Bool.and_eq_true,decide_eq_true_eq,Bool.or_eq_true] at h
   exact ⟨by omega,fun hb=>by rw [hb] at h; simpa using h.2⟩
  simp -implicitDefEqProofs (disch:=omega) only [go_sem,↓reduceIte,reduceCtorEq,rA,rq,rL,rT,Qnn,Qms,hy,hop]
  refine QaO hT Qao m1 rfl 1000 fun v hv=>?_
  subst hv
  cases q1:(decide (x.rd<32)&&(Zy r.form || decide (x.rd=0))) with
  | false =>
    refine ya ?_
    rw [bad (by rcases bb _ _ q1 with h | h; exact .inl h; exact .inr (.inr (.inr (.inl h))))]
  | true =>
    refine ya ?_
    refine QaO hT Qao m2 rfl 1000 fun v hv=>?_
    subst hv
    cases q2:(decide (x.rs1<32)&&(ZW r.form || decide (x.rs1=0))) with
    | false =>
      refine ya ?_
      rw [bad (by rcases bb _ _ q2 with h | h; exact .inr (.inl h); exact .inr (.inr (.inr (.inr (.inl h)))))]
    | true =>
      refine ya ?_
      refine QaO hT Qao m3 rfl 1000 fun v hv=>?_
      subst hv
      cases q3:(decide (x.rs2<32)&&(QaH r.form || decide (x.rs2=0))) with
      | false =>
        refine ya ?_
        rw [bad (by rcases bb _ _ q3 with h | h; exact .inr (.inr (.inl h)); exact .inr (.inr (.inr (.inr (.inr (.inl h))))))]
      | true =>
        obtain ⟨d1,e1⟩:=bt _ _ q1
        obtain ⟨d2,e2⟩:=bt _ _ q2
        obtain ⟨d3,e3⟩:=bt _ _ q3
        have hwd:Qv (bitsOf r.form) (Qdu r.form)≤60:=by rcases hf with h | h | h | h | h | h | h | h | h <;> rw [h] <;> decide
        have hl4:(bitsOf r.form).length≤4:=by rcases hf with h | h | h | h | h | h | h | h | h <;> rw [h] <;> decide
        have hb4:∀ p∈bitsOf r.form,p.1≤31∧p.2≤30:=by rcases hf with h | h | h | h | h | h | h | h | h <;> rw [h] <;> decide
        have hz4:Qdu r.form≤30:=by rcases hf with h | h | h | h | h | h | h | h | h <;> rw [h] <;> decide
        have cf:=c_fits (G:=G0) hT (Zy r.form) (ZW r.form) (QaH r.form) (bitsOf r.form) (Qdu r.form) (QnA r.form) (QbM r.form) x.imm hl4 hb4 hz4 hwd hi
        have ef:=QAV x.imm hf
        unfold QIK at ef
        simp only at ef
        have cf:Pure Tryz.prog G0 Qcx [.agg (frm (Zy r.form) (ZW r.form) (QaH r.form) (bitsOf r.form) (Qdu r.form) (QnA r.form) (QbM r.form)),.int .i64 x.imm] fun v=>v=.bool (room r.form x.imm):=by rw [← ef]; exact cf
        simp only [frm,hy] at cf
        have cs:=QA6 (G:=G0) x.imm hf
        simp only [Qms,hy] at cs
        have w1:IntKind.u32.wrap x.rd=x.rd:=wrap_u32 (by omega) (by omega)
        have w2:IntKind.u32.wrap x.rs1=x.rs1:=wrap_u32 (by omega) (by omega)
        have w3:IntKind.u32.wrap x.rs2=x.rs2:=wrap_u32 (by omega) (by omega)
        have w4:IntKind.u32.wrap (x.rd * 128)=x.rd * 128:=wrap_u32 (by omega) (by omega)
        have w5:IntKind.u32.wrap (x.rs1 * 32768)=x.rs1 * 32768:=wrap_u32 (by omega) (by omega)
        have w6:IntKind.u32.wrap (x.rs2 * 1048576)=x.rs2 * 1048576:=wrap_u32 (by omega) (by omega)
        have ct:=QvX (G:=G0) hT [Yq r,x.rd * 128,x.rs1 * 32768,x.rs2 * 1048576,Qpf r.form x.imm] true (by simp)
        simp only [List.map_cons,List.map_nil] at ct
        refine yx ?_
        refine ⟨fun hl=>⟨fun hm=>?_,fun hm=>?_⟩,fun hl=>?_⟩
        ·rw [bad (.inr (.inr (.inr (.inr (.inr (.inr ⟨hbl.1 (by omega),hm⟩))))))]
        all_goals (
         have hgood:¬((r.form=82∨r.form=69)∧x.imm≠0):=fun h=>by first | exact h.2 hm | exact hl (by have:=hbl.2 h.1; omega)
         have he2:enc T x=if room r.form x.imm=false then (0,101) else (Yq r+x.rd * 128+x.rs1 * 32768+x.rs2 * 1048576+spread r.form x.imm,0):=by
          rw [he,if_neg]
          rintro (h | h | h | h | h | h | h)
          ·omega
          ·omega
          ·omega
          ·exact h.2 (e1 h.1)
          ·exact h.2 (e2 h.1)
          ·exact h.2 (e3 h.1)
          ·exact hgood h
         refine QaO hT Qgq cf rfl 1000 fun v hv=>?_
         subst hv
         cases hr:room r.form x.imm with
         | false =>
           refine ya ?_
           rw [he2,hr]; rfl
         | true =>
           simp -implicitDefEqProofs (disch:=omega) only [go_sem,↓reduceIte,reduceCtorEq,rA,rq,rL,Int.reduceToNat,Int.reduceLE,g0a,g0b,g0c,show min 7 32=7 from rfl,show min 15 32=15 from rfl,show min 20 32=20 from rfl,Int.reducePow,w1,w2,w3,w4,w5,w6]
           refine QaO hT Qj5 cs rfl 1000 fun v hv=>?_
           subst hv
           refine ya ?_
           refine QaO hT QhJ ct rfl 1000 fun v hv=>?_
           subst hv
           refine ya ?_
           rw [he2,hr,Qvl _ hf hr,QIb hk ⟨a0,d1⟩ ⟨b0,d2⟩ ⟨c0,d3⟩ e1 e2 e3 hr]
           rfl)
 ·have he:enc T x=(0,100):=by unfold enc; rw [if_neg (by rw [QtP]; exact hop)]
  have hrow:rowOf x.op=zeroC:=by unfold rowOf; rw [if_neg hop]
  intro t
  refine Xq 0 (zL _) (Q0 hT QgL (by simp [Qc1]) (Ql 1000 ?_))
  simp -implicitDefEqProofs (disch:=omega) only [go_sem,↓reduceIte,reduceCtorEq,rA,rq,rL,inC]
  refine QaO hT QsF (QFr hT x.op o0 o1) rfl 1000 fun v hv=>?_
  subst hv
  rw [hrow]
  have hop':decide (1≤x.op∧x.op≤65)=false:=by simpa using hop
  rw [hop']
  simp -implicitDefEqProofs (disch:=omega) only [go_sem,↓reduceIte,reduceCtorEq,rA,rq,rT,zeroC]
  rw [he]
end
section
attribute [local go_sem] aZ lR Nat.succ_ne_zero zA Nat.zero_mul decide_false decide_true Qz QaA QCc QCb QB QCk QCj QCi QCh QCg QCf QCe QCd
def hD (tb:List V) (b v1 v2:Nat) (w:Int):List (Option Ob):=[some (.arr b 131 [.int .u32 w]),some (.arr v1 77 [.int .u8 0,.int .u8 0,.int .u8 0,.int .u8 0,.int .i64 0]),some (.arr v2 195 tb)]
variable {base b v1 v2 t:Nat} {tb:List V}
theorem c_S1 (hT:Qh P tab) (w:Int) (a0 a1 a2 a5 q:Bool) (y:Nat) (L:List V) (a4:Int) (a7:List UInt8) (m k:Int) (hb:base≤3) :
 C P G base Qgz [.agg [.bool a0,.bool a1,.bool a2,.lst y L q,.int .i64 a4,.bool a5,.int .u32 m,.str a7,.int .u32 k],.ptr 0 b 0] ⟨t,hD tb b v1 v2 w⟩ fun v σ=>v=.bool (decide (m≠0)&&(andI .u32 w m==k))∧∃ t',t≤t'∧σ=⟨t',hD tb b v1 v2 w⟩:=by
 refine Xq 3 hb (Q0 hT Qcs (by simp [QaA]) (Ql 12 ?_))
 cases hm:(m != 0) with
 | true =>
   simp -implicitDefEqProofs (disch:=omega) only [go_sem,↓reduceIte,reduceCtorEq,rA,rq,rL,hD,hm]
   refine Qa 2 ?_
   refine ya ?_
   refine Qa 2 ?_
   refine ya ?_
   refine Qa 2 ?_
   refine ya ?_
   refine Qa 2 ?_
   refine ya ?_
   refine Qa 2 ?_
   refine ya ?_
   refine Qa 1000 ?_
   refine ya ?_
   refine ⟨?_,_,?_,rfl⟩
   ·have:m≠0:=by simpa using hm
    simp only [this,not_false_eq_true,decide_true,Bool.true_and]
   ·omega
 | false =>
   simp -implicitDefEqProofs (disch:=omega) only [go_sem,↓reduceIte,reduceCtorEq,rA,rq,rL,hD,hm]
   refine Qa 2 ?_
   refine ya ?_
   refine Qa 2 ?_
   refine ya ?_
   refine Qa 2 ?_
   refine ya ?_
   refine Qa 2 ?_
   refine ya ?_
   refine Qa 2 ?_
   refine ya ?_
   refine Qa 1000 ?_
   refine ya ?_
   refine ⟨?_,_,?_,rfl⟩
   ·have:m=0:=by simpa using hm
    simp only [this,not_true_eq_false,decide_false,Bool.false_and]
   ·omega
structure TbOk (tb:List V):Prop where
 len:tb.length=594
 get:∀ k,k<66→(tb.drop (k * 9)).take 9=if k=0 then zeroC else Qnn (T.getD (k - 1) ⟨0,[],0,0,0⟩)
 ones:ones tb
theorem tbOk:TbOk tabC:=⟨Qo9,fun k hk=>Qt6 ⟨k,hk⟩,QlC⟩
def hitP (w j:Int):Prop:=(j=-1∧first w 0 T=none)∨∃ k r,j=((k+1:Nat):Int)∧T[k]?=some r∧is w r=true∧first w 0 T=some (mk k r w)
theorem QHW {w:Int} (h0:0≤w) (h1:w<4294967296) {i:Nat} (h:1≤i) (hi:i<66) {r:RR} (hr:T[i - 1]?=some r):(decide (QbM r.form≠0)&&(andI .u32 w (QbM r.form)==Yq r))=is w r:=by
 have hg:=Qsi r (List.mem_of_getElem? hr)
 have hm:QbM r.form≠0:=by
  unfold QbM
  split
  ·decide
  split
  ·decide
  split
  ·decide
  split <;> decide
 have:=QIq hg h0 h1
 rw [decide_eq_true hm,Bool.true_and]
 rw [Bool.eq_iff_iff,beq_iff_eq]
 exact this
theorem QtF (hT:Qh P tab) (htb:TbOk tb) (w:Int) (h0:0≤w) (h1:w<4294967296) (lim:Option Nat) (hb:base≤3) :
 C P G base XU [.sl 2 v2 0 9 66 lim,.fn (.func 113) [] [.ptr 0 b 0]] ⟨t,hD tb b v1 v2 w⟩ fun v σ=>∃ j,v=.int .i64 j∧hitP w j∧∃ t',t≤t'∧σ=⟨t',hD tb b v1 v2 w⟩:=by
 have hl:=htb.len
 refine Q0 hT XT (by simp [QB]) (Ql 1000 ?_)
 simp -implicitDefEqProofs (disch:=omega) only [go_sem,↓reduceIte,reduceCtorEq,rq,hD]
 refine Qbe (fun n fr σ=>∃ i t',i≤66∧n=66 - i∧(∀ j r,j+1<i→T[j]?=some r→is w r=false)∧t≤t'∧Qf fr 0=.sl 2 v2 0 9 66 lim∧Qf fr 1=.fn (.func 113) [] [.ptr 0 b 0]∧Qf fr 7=.int .i64 ((66:Nat):Int)∧Qf fr 8=.int .i64 i∧σ=⟨t',hD tb b v1 v2 w⟩)
  (fun e fr σ=>∃ t',t≤t'∧σ=⟨t',hD tb b v1 v2 w⟩∧((e=.ret∧∃ j,Qf fr 4=.int .i64 j∧hitP w j)∨(e=.ex 0∧first w 0 T=none)))
  (m0:=66) ⟨0,t,by omega,rfl,fun j r h=>by omega,by omega,?_⟩ (fun n fr σ hJ=>?_) (fun e fr σ hE=>?_)
 ·simp -implicitDefEqProofs (disch:=omega) only [go_sem,↓reduceIte,reduceCtorEq,rq,hD]
  rfl
 ·obtain ⟨i,t',hi,rfl,hno,ht,f0,f1,f7,f8,rfl⟩:=hJ
  refine Ql 1000 ?_
  rcases Nat.lt_or_ge i 66 with hlt | hge
  ·have hg:=htb.get i hlt
   have e2:=Qe2 hlt (by omega)
   simp -implicitDefEqProofs (disch:=omega) only [go_sem,↓reduceIte,reduceCtorEq,rq,hD,f0,f1,f7,f8,hlt]
   rw [hg]
   rcases Nat.eq_zero_or_pos i with hz | hp
   ·subst hz
    rw [if_pos rfl,zeroC]
    have hc:=c_S1 (P:=P) (G:=G) hT (tb:=tb) (base:=base) (b:=b) (v1:=v1) (v2:=v2) (t:=t') w false false false false true 0 [] 0 [] 0 0 hb
    simp only [hD] at hc
    refine QA4 hT Qcs hc 1000 fun v σ hv=>?_
    obtain ⟨rfl,t2,ht2,rfl⟩:=hv
    simp -implicitDefEqProofs (disch:=omega) only [go_sem,↓reduceIte,rq,Nat.reduceSub,f8]
    refine ⟨66 - (0+1),_,_,by omega,Shift.refl _ _ _ _,0+1,t2,by omega,rfl,fun j r h=>by omega,by omega,?_⟩
    simp -implicitDefEqProofs (disch:=omega) only [go_sem,↓reduceIte,reduceCtorEq,rq,f0,f1,f7]
    rfl
   ·obtain ⟨r,hr⟩:∃ r,T[i - 1]?=some r:=⟨_,List.getElem?_eq_getElem (by rw [QtP]; omega)⟩
    obtain ⟨y,hy,_⟩:=Qdj (bitsOf r.form)
    have hgd:T.getD (i - 1) ⟨0,[],0,0,0⟩=r:=by rw [List.getD_eq_getElem?_getD,hr]; rfl
    rw [if_neg (by omega),hgd]
    simp only [Qnn,Qms,hy,cA,nA]
    have hc:=c_S1 (P:=P) (G:=G) hT (tb:=tb) (base:=base) (b:=b) (v1:=v1) (v2:=v2) (t:=t') w (Zy r.form) (ZW r.form) (QaH r.form) (QnA r.form) true y ((bitsOf r.form).map fun b=>pr b.1 b.2) (Qdu r.form) r.name (QbM r.form) (Yq r) hb
    rw [QHW h0 h1 hp hlt hr] at hc
    simp only [hD] at hc
    refine QA4 hT Qcs hc 1000 fun v σ hv=>?_
    obtain ⟨rfl,t2,ht2,rfl⟩:=hv
    cases his:is w r with
    | true =>
      refine ya ?_
      refine ⟨t2,by omega,rfl,i,rfl,.inr ⟨i - 1,r,by congr 1; omega,hr,his,?_⟩⟩
      have:=QuH h0 h1 (i:=0) Qsi QJv hr his
      rwa [zA] at this
    | false =>
      simp -implicitDefEqProofs (disch:=omega) only [go_sem,↓reduceIte,rq,f8]
      refine ⟨66 - (i+1),_,_,by omega,Shift.refl _ _ _ _,i+1,t2,by omega,rfl,fun j s hj hs=>?_,by omega,?_⟩
      ·by_cases hji:j=i - 1
       ·subst hji; rw [hr] at hs; cases hs; exact his
       ·exact hno j s (by omega) hs
      ·simp -implicitDefEqProofs (disch:=omega) only [go_sem,↓reduceIte,reduceCtorEq,rq,f0,f1,f7,e2]
  ·have hi:i=66:=by omega
   subst hi
   simp -implicitDefEqProofs (disch:=omega) only [go_sem,↓reduceIte,reduceCtorEq,rq,Nat.reduceSub,f7,f8,Nat.lt_irrefl]
   refine ⟨t',by omega,rfl,QoF fun r hr=>?_⟩
   obtain ⟨j,hj⟩:=List.mem_iff_getElem?.1 hr
   have hjl:=(List.getElem?_eq_some_iff.1 hj).1
   rw [QtP] at hjl
   exact hno j r (by omega) hj
 ·obtain ⟨t',ht,rfl,hE⟩:=hE
  rcases hE with ⟨rfl,j,f4,hh⟩ | ⟨rfl,hh⟩
  ·refine Qa 1000 ?_
   refine yy ?_
   exact ⟨j,rfl,hh,t',ht,rfl,rfl⟩
  ·refine Qa 1000 ?_
   refine ya ?_
   exact ⟨-1,rfl,.inl ⟨rfl,hh⟩,t',ht,rfl,rfl⟩
end
end Go.Proofs.YtfgccihafnjalaaGreatDoor
namespace Go.Proofs.YtfgccihafnjalaaGreatDoor
open Go Go.Am Go.Rv
set_option maxRecDepth 100000
section
attribute [local go_sem] nF aZ lR Nat.one_mul zA zL Nat.zero_mul decide_false decide_true Qz Qfb QC0 QCZ QwR QwQ QwP QwO QCY QCX QCW QCV QCU QCT QCS QCR
theorem c_numF {P:Program} {G:Nat→Option V} (hT:Qh P tab) {f w:Int} (hf:f=82∨f=87∨f=73∨f=72∨f=83∨f=66∨f=85∨f=74∨f=69) (hw:u32 w) :
 Pure P G Qa1 [.agg (Qms f),.int .u32 w] fun v=>v=.int .i64 (number w f):=by
 have h:=QA8 (G:=G) hT (Zy f) (ZW f) (QaH f) (bitsOf f) (Qdu f) (QnA f) (QbM f) w
  (by rcases hf with h | h | h | h | h | h | h | h | h <;> rw [h] <;> decide) (by rcases hf with h | h | h | h | h | h | h | h | h <;> rw [h] <;> decide)
  (by rcases hf with h | h | h | h | h | h | h | h | h <;> rw [h] <;> decide) (by rcases hf with h | h | h | h | h | h | h | h | h <;> rw [h] <;> decide)
  (by rcases hf with h | h | h | h | h | h | h | h | h <;> rw [h] <;> decide) (by rcases hf with h | h | h | h | h | h | h | h | h <;> rw [h] <;> decide) hw
 have e:=QIh w hf
 unfold numP at e
 simp only at e
 rw [e] at h
 exact h
def errT (o:Option In):List V:=match o with
 | some x=>[.agg (inC x),.int .i64 0]
 | none=>[.agg (inC ⟨0,0,0,0,0⟩),.int .i64 100]
def dH (tb rc:List V) (t t2:Nat) (a b c:Bool) (w op rd r1 r2 im:Int):List (Option Ob) :=
 [some (.arr t 131 [.int .u32 w]),some (.arr (t+1) 77 [.int .u8 0,.int .u8 0,.int .u8 0,.int .u8 0,.int .i64 0]),some (.arr (t+1+1) 195 tb),some (.arr t2 175 rc),
  some (.arr (t2+1) 77 [.int .u8 op,.int .u8 rd,.int .u8 r1,.int .u8 r2,.int .i64 im]),
  some (.arr (t2+1+1) 202 [.bool a,.ptr 4 (t2+1) 1,.int .i64 7,.int .i64 5,.bool b,.ptr 4 (t2+1) 2,.int .i64 15,.int .i64 5,.bool c,.ptr 4 (t2+1) 3,.int .i64 20,.int .i64 5])]
theorem Qlw (w:Int) (a:Nat):IntKind.u8.wrap (fld w a 5)=fld w a 5:=by
 have:=QyD w a 5
 exact Zl _ (by simp [IntKind.min,IntKind.signed]; omega) (by simp [IntKind.max,IntKind.signed,IntKind.bits]; omega)
theorem QBd (hT:Qh Tryz.prog tab) (w:Int) (h0:0≤w) (h1:w<4294967296):Pure Tryz.prog G0 QgU [.int .u32 w] fun v=>v=.tup (errT (first w 0 T)):=by
 intro t
 obtain ⟨tb,htb⟩:∃ tb,tb=tabC:=⟨_,rfl⟩
 have ct:=QyV hT
 rw [← htb] at ct
 have ok:TbOk tb:=by rw [htb]; exact tbOk
 have hnl:Qb tb=true:=by rw [htb]; exact QhH
 clear htb
 have hl:=ok.len
 have ho:=ok.ones
 refine Xq 0 (zL _) (Q0 hT QlH (by simp [Qfb]) (Ql 1000 ?_))
 refine ya ?_
 refine QaO hT Qok ct (by simp [Qb]) 1000 fun v hv=>?_
 subst hv
 simp -implicitDefEqProofs (disch:=omega) only [go_sem,↓reduceIte,reduceCtorEq,rA,rq,Nat.reduceSub,Nat.reduceMul,hl,ho]
 have hx:=QtF (G:=G0) hT ok (base:=0) (b:=t) (v1:=t+1) (v2:=t+1+1) (t:=t+1+1+1) w h0 h1 (some 66) (zL _)
 simp only [hD] at hx
 refine call hT XT hx 1000 fun v σ hv=>?_
 obtain ⟨j,rfl,hj,t2,ht2,rfl⟩:=hv
 rcases hj with ⟨rfl,hno⟩ | ⟨k,r,rfl,hk,his,hfi⟩
 ·refine ya ?_
  rw [hno]
  rfl
 ·have hkl:k<65:=by have:=(List.getElem?_eq_some_iff.1 hk).1; rw [QtP] at this; exact this
  have hg:=ok.get (k+1) (by omega)
  have hgd:T.getD (k+1 - 1) ⟨0,[],0,0,0⟩=r:=by rw [Nat.add_sub_cancel,List.getD_eq_getElem?_getD,hk]; rfl
  rw [if_neg (by omega),hgd] at hg
  have hf:=forms (Qsi r (List.mem_of_getElem? hk))
  obtain ⟨y,hy,_⟩:=Qdj (bitsOf r.form)
  have hrc:Qnn r=[.bool (Zy r.form),.bool (ZW r.form),.bool (QaH r.form),.lst y ((bitsOf r.form).map fun b=>pr b.1 b.2) true,.int .i64 (Qdu r.form),.bool (QnA r.form),.int .u32 (QbM r.form),.str r.name,.int .u32 (Yq r)]:=by
   simp only [Qnn,Qms,hy,cA,nA]
  rw [hrc] at hg
  have cn:=c_numF (G:=G0) hT hf (w:=w) ⟨h0,h1⟩
  simp only [Qms,hy] at cn
  have n1:¬ (((k+1:Nat):Int)<0):=by omega
  have n2:(((k+1:Nat):Int)).toNat=k+1:=by omega
  have n3:IntKind.u8.wrap ((k+1:Nat):Int)=(k:Int)+1:=by rw [Zl _ (by simp [IntKind.min,IntKind.signed]; omega) (by simp [IntKind.max,IntKind.signed,IntKind.bits]; omega)]; push_cast; rfl
  simp -implicitDefEqProofs (disch:=omega) only [go_sem,↓reduceIte,reduceCtorEq,rA,rq,rL,n1,n2,n3,hl,hg,show (k+1) * 9≤585 by omega,show k+1<66 by omega]
  refine QaO hT Qd1 cn (by simp [Qb,Qd]) 3 fun v hv=>?_
  subst hv
  refine ya ?_
  iterate 14 (try (refine Qa 3 ?_; simp -implicitDefEqProofs (disch:=omega) only [go_sem,↓reduceIte,reduceCtorEq,rA,rq,rL,g0a,g0b,g0c]))
  have oc:(Value.pointer none).oneCell'=true:=rfl
  have co:∀ a:Nat,a≤31→Pure Tryz.prog G0 Qfl [.agg [.int .i64 a,.int .i64 5],.int .u32 w] fun v=>v=.int .u32 (fld w a 5):=fun a ha=>c_of (G:=G0) hT w a 5 ⟨h0,h1⟩ ha (by omega)
  have wz:∀ i:Nat,i<3→IntKind.i64.wrap ((i:Int)+1)=((i+1:Nat):Int):=fun i hi=>Qe2 hi (by omega)
  refine QlP (fun n fr σ=>∃ i t3,i≤3∧n=3 - i∧Qf fr 1=.ptr 0 t 0∧Qf fr 2=.ptr 1 (t+1) 0∧Qf fr 3=.int .i64 0∧Qf fr 7=.ptr 4 (t2+1) 0∧Qf fr 45=.sl 5 (t2+1+1) 0 4 3 none∧Qf fr 46=.int .i64 ((3:Nat):Int)∧Qf fr 47=.int .i64 i ∧
   σ=⟨t3,dH tb (Qnn r) t t2 (Zy r.form) (ZW r.form) (QaH r.form) w ((k:Int)+1) (if 1≤i then (if Zy r.form then fld w 7 5 else 0) else 0) (if 2≤i then (if ZW r.form then fld w 15 5 else 0) else 0) (if 3≤i then (if QaH r.form then fld w 20 5 else 0) else 0) (number w r.form)⟩)
   (fun n fr σ hJ=>?_) (m0:=3) ⟨0,t2+1+1+1,by omega,rfl,?_⟩
  ·obtain ⟨i,t3,hi,rfl,f1,f2,f3,f7,f45,f46,f47,rfl⟩:=hJ
   refine Ql 3 ?_
   have hcase:i=0∨i=1∨i=2∨i=3:=by omega
   rcases hcase with rfl | rfl | rfl | rfl
   ·-- round 0
    cases hA:Zy r.form with
    | true =>
      simp -implicitDefEqProofs (disch:=omega) only [go_sem,↓reduceIte,rL,Nat.reduceSub,dH,f46,f47]
      iterate 12 (try (refine Qa 3 ?_; simp -implicitDefEqProofs (disch:=omega) only [go_sem,↓reduceIte,reduceCtorEq,rA,rq,rL,oc,f1,f45,f47]))
      refine QaO hT Qav (co 7 (by omega)) rfl 3 fun v hv=>?_
      subst hv
      simp -implicitDefEqProofs (disch:=omega) only [go_sem,↓reduceIte,rA,rq,rL,Qlw]
      iterate 12 (try (refine Qa 3 ?_; simp -implicitDefEqProofs (disch:=omega) only [go_sem,↓reduceIte,rq,f47]))
      refine ⟨3 - 1,_,_,by omega,Shift.drop (o':=dH tb (Qnn r) t t2 (Zy r.form) (ZW r.form) (QaH r.form) w ((k:Int)+1) (if Zy r.form then fld w 7 5 else 0) 0 0 (number w r.form)) (t':=t3+1) (by simp [Xw,dH,hA]) (lR _) (zL _),1,t3+1,by omega,rfl,?_⟩
      refine yh ?_
      simp [hA,dH]
    | false =>
      simp -implicitDefEqProofs (disch:=omega) only [go_sem,↓reduceIte,rL,Nat.reduceSub,dH,f46,f47]
      iterate 12 (try (refine Qa 3 ?_; simp -implicitDefEqProofs (disch:=omega) only [go_sem,↓reduceIte,reduceCtorEq,rA,rq,rL,oc,f45,f47]))
      refine ⟨3 - 1,_,_,by omega,Shift.drop (o':=dH tb (Qnn r) t t2 (Zy r.form) (ZW r.form) (QaH r.form) w ((k:Int)+1) (if Zy r.form then fld w 7 5 else 0) 0 0 (number w r.form)) (t':=t3+1) (by simp [Xw,dH,hA]) (lR _) (zL _),1,t3+1,by omega,rfl,?_⟩
      refine yh ?_
      simp [hA,dH]
   ·-- round 1
    cases hA:ZW r.form with
    | true =>
      simp -implicitDefEqProofs (disch:=omega) only [go_sem,↓reduceIte,rL,Nat.reduceSub,dH,f46,f47]
      iterate 12 (try (refine Qa 3 ?_; simp -implicitDefEqProofs (disch:=omega) only [go_sem,↓reduceIte,reduceCtorEq,rA,rq,rL,oc,f1,f45,f47]))
      refine QaO hT Qav (co 15 (by omega)) rfl 3 fun v hv=>?_
      subst hv
      simp -implicitDefEqProofs (disch:=omega) only [go_sem,↓reduceIte,rA,rq,rL,Qlw]
      iterate 12 (try (refine Qa 3 ?_; simp -implicitDefEqProofs (disch:=omega) only [go_sem,↓reduceIte,rq,f47]))
      refine ⟨3 - 2,_,_,by omega,Shift.drop (o':=dH tb (Qnn r) t t2 (Zy r.form) (ZW r.form) (QaH r.form) w ((k:Int)+1) (if Zy r.form then fld w 7 5 else 0) (if ZW r.form then fld w 15 5 else 0) 0 (number w r.form)) (t':=t3+1) (by simp [Xw,dH,hA]) (lR _) (zL _),2,t3+1,by omega,rfl,?_⟩
      refine yh ?_
      simp [hA,dH]
    | false =>
      simp -implicitDefEqProofs (disch:=omega) only [go_sem,↓reduceIte,rL,Nat.reduceSub,dH,f46,f47]
      iterate 12 (try (refine Qa 3 ?_; simp -implicitDefEqProofs (disch:=omega) only [go_sem,↓reduceIte,reduceCtorEq,rA,rq,rL,oc,f45,f47]))
      refine ⟨3 - 2,_,_,by omega,Shift.drop (o':=dH tb (Qnn r) t t2 (Zy r.form) (ZW r.form) (QaH r.form) w ((k:Int)+1) (if Zy r.form then fld w 7 5 else 0) (if ZW r.form then fld w 15 5 else 0) 0 (number w r.form)) (t':=t3+1) (by simp [Xw,dH,hA]) (lR _) (zL _),2,t3+1,by omega,rfl,?_⟩
      refine yh ?_
      simp [hA,dH]
   ·-- round 2
    cases hA:QaH r.form with
    | true =>
      simp -implicitDefEqProofs (disch:=omega) only [go_sem,↓reduceIte,rL,rT,Nat.reduceSub,dH,f46,f47]
      iterate 12 (try (refine Qa 3 ?_; simp -implicitDefEqProofs (disch:=omega) only [go_sem,↓reduceIte,reduceCtorEq,rA,rq,rL,rT,Nat.reduceMul,oc,f1,f45,f47]))
      refine QaO hT Qav (co 20 (by omega)) rfl 3 fun v hv=>?_
      subst hv
      simp -implicitDefEqProofs (disch:=omega) only [go_sem,↓reduceIte,rA,rq,rL,Qlw]
      iterate 12 (try (refine Qa 3 ?_; simp -implicitDefEqProofs (disch:=omega) only [go_sem,↓reduceIte,rq,f47]))
      refine ⟨3 - 3,_,_,by omega,Shift.drop (o':=dH tb (Qnn r) t t2 (Zy r.form) (ZW r.form) (QaH r.form) w ((k:Int)+1) (if Zy r.form then fld w 7 5 else 0) (if ZW r.form then fld w 15 5 else 0) (if QaH r.form then fld w 20 5 else 0) (number w r.form)) (t':=t3+1) (by simp [Xw,dH,hA]) (lR _) (zL _),3,t3+1,by omega,rfl,?_⟩
      refine yh ?_
      simp [hA,dH]
    | false =>
      simp -implicitDefEqProofs (disch:=omega) only [go_sem,↓reduceIte,rL,rT,Nat.reduceSub,dH,f46,f47]
      iterate 12 (try (refine Qa 3 ?_; simp -implicitDefEqProofs (disch:=omega) only [go_sem,↓reduceIte,reduceCtorEq,rA,rq,rL,rT,Nat.reduceMul,oc,f45,f47]))
      refine ⟨3 - 3,_,_,by omega,Shift.drop (o':=dH tb (Qnn r) t t2 (Zy r.form) (ZW r.form) (QaH r.form) w ((k:Int)+1) (if Zy r.form then fld w 7 5 else 0) (if ZW r.form then fld w 15 5 else 0) (if QaH r.form then fld w 20 5 else 0) (number w r.form)) (t':=t3+1) (by simp [Xw,dH,hA]) (lR _) (zL _),3,t3+1,by omega,rfl,?_⟩
      refine yh ?_
      simp [hA,dH]
   ·simp -implicitDefEqProofs (disch:=omega) only [go_sem,↓reduceIte,rL,Nat.reduceSub,f47,f46,Nat.lt_irrefl]
    iterate 6 (try (refine Qa 3 ?_; simp -implicitDefEqProofs (disch:=omega) only [go_sem,↓reduceIte,reduceCtorEq,rA,rq,dH,f2,f7]))
    rw [hfi]; rfl
  ·rw [hrc]
   simp -implicitDefEqProofs (disch:=omega) only [go_sem,↓reduceIte,reduceCtorEq,rq,rL,dH]
   rfl
end
def inB (x:In):Bool:=decide (0≤x.op∧x.op≤255∧0≤x.rd∧x.rd≤255∧0≤x.rs1∧x.rs1≤255∧0≤x.rs2∧x.rs2≤255∧-9223372036854775808≤x.imm∧x.imm≤9223372036854775807)
theorem inB_ok {x:In} (h:inB x=true):InOk x:=by
 simp only [inB,decide_eq_true_eq] at h
 exact ⟨⟨by omega,by omega⟩,⟨by omega,by omega⟩,⟨by omega,by omega⟩,⟨by omega,by omega⟩,by unfold i64; omega⟩
def oRv (f:Nat) (args:List V):Option V :=
 if f=QgT then match args with
  | [.agg [.int .u8 op,.int .u8 rd,.int .u8 a,.int .u8 b,.int .i64 imm]]=>if inB ⟨op,rd,a,b,imm⟩ then some (.tup [.int .u32 (enc T ⟨op,rd,a,b,imm⟩).1,.int .i64 (enc T ⟨op,rd,a,b,imm⟩).2]) else none
  | _=>none
 else if f=QgU then match args with
  | [.int .u32 w]=>if 0≤w∧w<4294967296 then some (.tup (errT (first w 0 T))) else none
  | _=>none
 else none
theorem QEZ (hT:Qh Tryz.prog tab):Qp6 Tryz.prog G0 oRv:=fun f args v h=>by
 unfold oRv at h
 split at h
 ·rename_i hf
  subst hf
  split at h
  ·split at h
   ·rename_i hb
    cases h
    exact ⟨(hT _ _ QgL).1,QBc hT _ (inB_ok hb)⟩
   ·cases h
  ·cases h
 ·split at h
  ·rename_i hf
   subst hf
   split at h
   ·split at h
    ·rename_i hb
     cases h
     exact ⟨(hT _ _ QlH).1,QBd hT _ hb.1 hb.2⟩
    ·cases h
   ·cases h
  ·cases h
def QyC:List UInt8:=[102,97,97]
def QjY (n:Nat):List In:=if n=0 then [⟨4,0,1,0,0⟩] else [⟨22,2,2,0,-8 * (n:Int)⟩,⟨22,2,2,0,8 * (n:Int)⟩,⟨4,0,1,0,0⟩]
def QiQ (n:Nat):List V:=((QjY n).map inC).flatten
def fnC (n:Nat):List V:=[.str QyC,.int .i64 0,.lst 5 ((QjY n).map fun x=>.agg (inC x)) false,.int .i64 (8 * (n:Int)),.lst 0 [] true]
def fnP (n:Nat):V→H→Bool
 | .agg [a,b,.sl k w 0 5 m none,c,d],σ=>Qzl [a,b,c,d] [.str QyC,.int .i64 0,.int .i64 (8 * (n:Int)),.lst 0 [] true]&&(m==(QjY n).length&&match σ.o[k]? with
   | some (some (.arr w' _ cs))=>w==w'&&Qzl cs (QiQ n)
   | _=>false)
 | _,_=>false
variable {n:Nat}
theorem fnP_ok {v:V} {σ:H} (h:fnP n v σ=true):∃ k w T,v=.agg [.str QyC,.int .i64 0,.sl k w 0 5 (QjY n).length none,.int .i64 (8 * (n:Int)),.lst 0 [] true]∧σ.o[k]?=some (some (.arr w T (QiQ n))):=by
 unfold fnP at h
 split at h
 ·rename_i a b k w m c d
  simp only [Bool.and_eq_true,beq_iff_eq] at h
  obtain ⟨h1,h2,h3⟩:=h
  have:=(Qbq h1).2
  injection this with e1 this
  injection this with e2 this
  injection this with e3 this
  injection this with e4 this
  subst e1 e2 e3 e4 h2
  split at h3
  ·rename_i w' T cs ho
   simp only [Bool.and_eq_true,beq_iff_eq] at h3
   obtain ⟨rfl,h4⟩:=h3
   have:=(Qbq h4).2
   subst this
   exact ⟨k,w,T,rfl,ho⟩
  ·cases h3
 ·cases h
theorem QuG:∀ l:List In,Zx 5 l.length ((l.map inC).flatten)=l.map fun x=>.agg (inC x)
 | []=>rfl
 | x::l=>by
   have ih:=QuG l
   simp only [List.map_cons,List.flatten_cons,lC,Zx,inC,cA,nA,tS,tZ,List.drop_succ_cons,List.drop_zero]
   rw [show (l.map fun x=>V.agg [V.int .u8 x.op,.int .u8 x.rd,.int .u8 x.rs1,.int .u8 x.rs2,.int .i64 x.imm])=l.map fun x=>V.agg (inC x) from rfl,← ih]
theorem QuO:∀ l:List In,Qb ((l.map inC).flatten)=true
 | []=>rfl
 | x::l=>by have:=QuO l; simpa [Qb,Qd,inC] using this
theorem fn_of {args:List V} (hn:Qb args=true) (h:C Tryz.prog G0 0 Qr args ⟨0,[]⟩ fun v σ=>fnP n v σ=true):Am.Pure Tryz.prog G0 Qr args fun v=>v=.agg (fnC n):=by
 refine QjF (QBw (Q:=fun v _=>Qd v=true∧v=.agg (fnC n)) (QfU h fun v σ hv=>?_) fun v σ hv=>⟨v,.refl _,hv⟩) hn
 obtain ⟨k,w,T,rfl,ho⟩:=fnP_ok hv
 refine .inr ⟨k,w,T,_,zL _,ho,QuO _,?_⟩
 have hlen:(QjY n).length * 5≤(QiQ n).length:=by
  unfold QiQ
  generalize QjY n=l
  induction l with
  | nil=>simp
  | cons x l ih=>simp only [List.map_cons,List.flatten_cons,lA,lC]; have:(inC x).length=5:=rfl; omega
 have hz:X8 k w (QiQ n) (.sl k w 0 5 (QjY n).length none)=.lst 5 ((QjY n).map fun x=>.agg (inC x)) false:=by
  have e:∀ (m:Nat) (cs:List V),X8 k w cs (.sl k w 0 5 m none)=if m * 5≤cs.length then .lst 5 (Zx 5 m cs) false else .any:=fun m cs=>by simp [X8,Qj6]
  rw [e,if_pos hlen]
  unfold QiQ
  rw [QuG]
 simp only [X8,QvF] at hz ⊢
 rw [hz]
 exact ⟨by simp [Qd,Qb],rfl⟩
theorem c_fn2:Am.Pure Tryz.prog G0 Qr [.int .u8 2] fun v=>v=.agg (fnC 2) :=
 fn_of rfl (run_C (QEZ Qjy) Qjy 400 60 (fnP 2) (by kernel_rfl))
end Go.Proofs.YtfgccihafnjalaaGreatDoor
