/- Contracts: a place picked; literals that hold each. -/
import Derived.Test.YtingdebioipemaaGreatDoorJ3
import Derived.Test.YtingdebioipemaaGreatDoorJ2
import Derived.Test.YtingdebioipemaaGreatDoorProg
import Derived.WalkKit
import Derived.Lib.BufferRead
import Derived.Lib.OthersKept
import Derived.Deep.Draws
import Derived.Test.YtingdebioipemaaGreatDoorAmD
import Derived.Test.YtingdebioipemaaGreatDoorTabEq
import Derived.LoopTactic
import Derived.Lib.ItoaLen
open Nat renaming reduceEqDiff → rq, reduceAdd → rA, reduceLeDiff → rL, reduceLT → rT, zero_add → zA, le_refl → lR, zero_le → zL, add_zero → aZ
open List renaming length_cons → lC, length_nil → lN, take_succ_cons → tS, length_append → lA, nil_append → nA, cons_append → cA, append_assoc → aA, take_nil → tN, take_zero → tZ, length_map → lM
open Bool renaming not_false → nFq, not_true → nT
namespace Go.Proofs.YtingdebioipemaaGreatDoor
open Go Go.Am Go.Cl
set_option maxRecDepth 100000
variable {P:Program} {G:Nat→Option V}
section
attribute [local go_sem] nFq nT lR zA zL decide_false decide_true Qs
end
section
attribute [local go_sem] nFq nT cA lC lM lN nA aZ lR Nat.mul_one zA zL decide_false decide_true Qh Qs
theorem X2:∀ {l m:List V},Qc l=true→Qc m=true→Qc (l++m)=true
 | [],_,_,h=>h
 | v::l,m,h,k=>by
   simp only [Qc,Bool.and_eq_true,cA] at h ⊢
   exact ⟨h.1,X2 h.2 k⟩
end
end Go.Proofs.YtingdebioipemaaGreatDoor
namespace Go.Cl
open Go
def X1 (a b:List Int) (v:Int):List Int × Bool :=
 if v≤0∨v ∉ a∨-v ∉ b∨-v∈a∨v∈b then ([],false) else ZA ((a++b).filter fun n=>decide (n≠v∧n≠-v))
end Go.Cl
namespace Go.Proofs.YtingdebioipemaaGreatDoor
open Go Go.Am Go.Cl
set_option maxRecDepth 100000
variable {P:Program} {G:Nat→Option V}
section
attribute [local go_sem] lR zA beq_self_eq_true decide_false decide_true ge_iff_le Qs QG Qrv Qru QR QqP QqO QqN QqM QqL QqK QqJ QqI
abbrev ixJ (t:Nat) (c:List Int) (x:Int):Nat→Fr→H→Prop:=fun m fr σ=>∃ i,i≤c.length∧m=c.length - i∧x ∉ c.take i∧Qi fr 0=.lst 1 (ints c) false∧Qi fr 1=.int .i64 x∧Qi fr 7=.int .i64 c.length∧Qi fr 8=.int .i64 ((i:Nat):Int)∧σ=⟨t,[]⟩
abbrev ixE (t:Nat) (c:List Int) (x:Int):AE→Fr→H→Prop:=fun e fr σ=>σ=⟨t,[]⟩∧((e=.ret∧x∈c∧∃ i:Nat,Qi fr 4=.int .i64 i)∨(e=.ex 0∧x ∉ c))
theorem Qt1 (hT:Qq P tab) (c:List Int) (x:Int) (hl:c.length≤1000000) :
 Pure P G Yk [row c,.int .i64 x] fun u=>∃ i:Int,u=.int .i64 i∧(0≤i↔x∈c):=by
 intro t
 simp only [row]
 refine Xk 0 (zL _) (Xf hT Yi (by simp [QR]) (QH 1000 ?_))
 simp -implicitDefEqProofs (disch:=omega) only [go_sem,↓reduceIte,reduceCtorEq,rq,Qh]
 refine Q5 (ixJ t c x) (ixE t c x) (m0:=c.length) ⟨0,by omega,rfl,by simp,?_⟩ (fun m fr σ hJ=>?_) (fun e fr σ hE=>?_)
 ·simp -implicitDefEqProofs (disch:=omega) only [go_sem,↓reduceIte,reduceCtorEq,rq,true_and,and_true]
  rfl
 ·obtain ⟨i,hi,rfl,hno,f0,f1,f7,f8,rfl⟩:=hJ
  rcases Nat.lt_or_ge i c.length with hlt | hge
  ·obtain ⟨n,hni⟩:∃ n,c[i]?=some n:=⟨_,List.getElem?_eq_getElem hlt⟩
   have hD:=Z4 hni
   have e2:=X8 hlt (by omega)
   by_cases hx:x=n
   ·subst hx
    have hm:=List.mem_of_getElem? hni
    have hb:(x==x)=true:=by simp
    refine Qj [(0,.lst 1 (ints c) false),(1,.int .i64 x),(7,.int .i64 c.length),(8,.int .i64 ((i:Nat):Int))] ⟨f0,f1,f7,f8,trivial⟩  1000 ?_
    simp -implicitDefEqProofs (disch:=omega) only [go_sem,↓reduceIte,reduceCtorEq,rq,Qh,true_implies,and_true,hlt,hD]
    exact ⟨rfl,.inl ⟨rfl,hm,i,rfl⟩⟩
   ·have hb:(x==n)=false:=by simpa using hx
    refine Qj [(0,.lst 1 (ints c) false),(1,.int .i64 x),(7,.int .i64 c.length),(8,.int .i64 ((i:Nat):Int))] ⟨f0,f1,f7,f8,trivial⟩  1000 ?_
    simp -implicitDefEqProofs (disch:=omega) only [go_sem,↓reduceIte,reduceCtorEq,rq,Qh,true_implies,and_true,hlt,hD,hb]
    refine ⟨c.length - (i+1),_,_,by omega,Shift.refl _ _ _ _,i+1,by omega,rfl,?_,?_⟩
    ·rw [QB hni,List.mem_append]; simp [hno,hx]
    ·simp -implicitDefEqProofs (disch:=omega) only [go_sem,↓reduceIte,reduceCtorEq,rq,and_true,e2]
  ·have hi:i=c.length:=by omega
   rw [hi,List.take_length] at hno
   refine Qj [(0,.lst 1 (ints c) false),(1,.int .i64 x),(7,.int .i64 c.length),(8,.int .i64 ((i:Nat):Int))] ⟨f0,f1,f7,f8,trivial⟩  1000 ?_
   simp -implicitDefEqProofs (disch:=omega) only [go_sem,↓reduceIte,reduceCtorEq,rq,hi,Nat.lt_irrefl]
   exact ⟨rfl,.inr ⟨rfl,hno⟩⟩
 ·obtain ⟨rfl,⟨rfl,hm,i,f4⟩ | ⟨rfl,hm⟩⟩:=hE
  ·refine Qe 1000 ?_
   simp -implicitDefEqProofs (disch:=omega) only [go_sem,true_and,f4]
   exact ⟨_,rfl,by simp [hm]⟩
  ·refine Qe 1000 ?_
   simp -implicitDefEqProofs (disch:=omega) only [go_sem,↓reduceIte,true_and]
   exact ⟨_,rfl,by simp [hm]⟩
theorem QfP (hT:Qq P tab) (c:List Int) (x:Int) (hl:c.length≤1000000) :
 Pure P G XY [row c,.int .i64 x] fun u=>u=.bool (decide (x∈c)):=by
 intro t
 have hI:=Qt1 (P:=P) (G:=G) hT c x hl
 simp only [row] at hI ⊢
 refine Xk 0 (zL _) (Xf hT Qg (by simp [QG]) (QH 1000 ?_))
 simp -implicitDefEqProofs (disch:=omega) only [go_sem,↓reduceIte,reduceCtorEq,rq]
 refine Qaq hT Yi hI (by simp [Qc,Qd]) 1000 fun u hu=>?_
 obtain ⟨i,rfl,hi⟩:=hu
 by_cases hx:x∈c
 ·have h0:(0≤i)=True:=eq_true (hi.2 hx)
  simp -implicitDefEqProofs (disch:=omega) only [go_sem,↓reduceIte,reduceCtorEq,rq,h0,hx]
 ·have h0:(0≤i)=False:=eq_false fun k=>hx (hi.1 k)
  simp -implicitDefEqProofs (disch:=omega) only [go_sem,↓reduceIte,reduceCtorEq,rq,h0,hx]
end
end Go.Proofs.YtingdebioipemaaGreatDoor
namespace Go.Proofs.YtingdebioipemaaGreatDoor
open Go Go.Am Go.Cl Go.RowKit
set_option maxRecDepth 100000
variable {w:World} {ρ:Names} {I:Imm} {t:Nat}
theorem QnW {P:Program} {G:Nat→Option V} {f:Nat} {args:List V} {Q:V→H→Prop} (h:C P G 0 f args ⟨t,[]⟩ Q) {xs:Array Value} (R:Rel G I ρ ⟨t,[]⟩ w) (hc:Cells I ρ args xs) :
 Calls P f xs w fun e w'=>∃ v x I' ρ' σ',e=.returned x∧VR I' ρ' v x∧Rel G I' ρ' σ' w'∧I.le I'∧Below w.heap.size w w'∧Q v σ' :=
 (h I ρ w xs R (zL _) hc).mono fun e w' ⟨v,x,I',ρ',σ',h1,h2,h3,h4,_,h6⟩ =>
  ⟨v,x,I',ρ',σ',h1,h2,h3,h4.imms,⟨h4.os,h4.tape,h4.output,h4.size,fun k hk=>h4.keep k hk fun n _ e=>by simp [blk] at e⟩,h6⟩
theorem QcD {G:Nat→Option V} {w':World} (R:Rel G I ρ ⟨t,[]⟩ w) (h:Below w.heap.size w w'):Rel G I ρ ⟨t,[]⟩ w':=R.ex ⟨h.os,h.tape,h.output,h.size,h.block⟩
structure Quu (P:Program):Prop where
 ws:∀ (B b:Nat) (bs:List Value) (s:ByteArray) (w:World),Lib.IsBuffer 55 5 B b bs w→B≤w.heap.size→(∀ v∈bs,v.oneCell'=true)→bs.length+s.size≤140737488355328 →
  Calls P Zo #[.pointer (some ⟨b,0,none⟩),.string s] w fun e w'=>e=.returned (.tuple #[.int .i64 s.size,.nilIface])∧Lib.IsBuffer 55 5 B b (bs++Lib.byteCells s.data.toList) w'∧Below B w w'∧Lib.OthersKept 5 (some b) w w'
 wb:∀ (B b:Nat) (bs:List Value) (c:Int) (w:World),Lib.IsBuffer 55 5 B b bs w→B≤w.heap.size→(∀ v∈bs,v.oneCell'=true)→bs.length+1≤140737488355328 →
  Calls P Z2 #[.pointer (some ⟨b,0,none⟩),.int .u8 c] w fun e w'=>e=.returned .nilIface∧Lib.IsBuffer 55 5 B b (bs++[.int .u8 c]) w'∧Below B w w'∧Lib.OthersKept 5 (some b) w w'
 by_:∀ (B b:Nat) (bs:List Value) (w:World),Lib.IsBuffer 55 5 B b bs w →
  Calls P Qbx #[.pointer (some ⟨b,0,none⟩)] w fun e w'=>∃ v,e=.returned v∧w'.ownsRow B 5 1 v bs.length bs∧∃ n,w'=w.drewN n
def QdU (P:Program) (G:Nat→Option V):Prop:=∀ n:Int,-9223372036854775808≤n∧n≤9223372036854775807→Am.Pure P G ZF [.int .i64 n] fun u=>u=.str (Qn n)
variable {G:Nat→Option V}
section
attribute [local go_sem] nT lR Nat.mul_one zA Qky Qh Qs
def Yf (c:List Int):List UInt8:=(c.map fun n=>Qn n++[32]).flatten
def clB (F:List (List Int)):List UInt8:=(F.map fun c=>Yf c++[48,10]).flatten
def inB (c:List Int) (m:Nat):List UInt8:=Yf (c.take m)++if m=c.length+1 then [48] else []
def X9 (v:Int) (F:List (List Int)):List UInt8:=[112,32,99,110,102,32]++Qn v++[32]++Qn F.length++[10]
def Qad (v:Int) (F:List (List Int)):List UInt8:=X9 v F++clB F
variable {n v:Int}
theorem Ze (h:-9223372036854775808≤n∧n≤9223372036854775807):(Qn n).length≤21:=by
 have e:Qn n=Lib.itoa n:=by unfold Qn; exact if_pos h
 rw [e]; exact Lib.itoa_length_le n h.1 h.2
variable {c:List Int}
theorem Z3 (h:∀ n∈c,n≠0∧-16777216≤n∧n≤16777216):(Yf c).length≤22 * c.length:=by
 unfold Yf
 induction c with
 | nil=>simp
 | cons n c ih =>
   have h1:=Ze (n:=n) (by have:=h n (by simp); omega)
   have h2:=ih fun m hm=>h m (by simp [hm])
   simp only [List.map_cons,List.flatten_cons,lA,lC,lN] at *
   omega
theorem Qiu:∀ {F:List (List Int)},(∀ c∈F,c.length≤1000)→(∀ c∈F,∀ n∈c,n≠0∧-16777216≤n∧n≤16777216)→(clB F).length≤22002 * F.length
 | [],_,_=>by simp [clB]
 | c::F,hc,h=>by
   have h1:=Z3 (h c (by simp))
   have h2:=hc c (by simp)
   have h3:=Qiu (F:=F) (fun d hd=>hc d (by simp [hd])) fun d hd=>h d (by simp [hd])
   simp only [clB,List.map_cons,List.flatten_cons,lA,lC,lN] at *
   omega
variable {F:List (List Int)}
theorem Qg8 (hv:-9223372036854775808≤v∧v≤9223372036854775807) (hF:F.length≤1000):(X9 v F).length≤50:=by
 have h1:=Ze hv
 have h2:=Ze (n:=(F.length:Int)) (by omega)
 simp only [X9,lA,lC,lN]; omega
variable {k m t b1 i:Nat}
theorem lens (hv:-9223372036854775808≤v∧v≤9223372036854775807) (hF:F.length≤1000) (hc:∀ c∈F,c.length≤1000) (hn:∀ c∈F,∀ n∈c,n≠0∧-16777216≤n∧n≤16777216) (hk:F[k]?=some c) (hm:m≤c.length+1) :
 (X9 v F++clB (F.take k)++inB c m).length≤100000000:=by
 have h1:=Qg8 hv hF
 have h2:=Qiu (F:=F.take k) (fun d hd=>hc d (List.mem_of_mem_take hd)) fun d hd=>hn d (List.mem_of_mem_take hd)
 have h3:=Z3 (c:=c.take m) fun x hx=>hn c (List.mem_of_getElem? hk) x (List.mem_of_mem_take hx)
 have h4:=hc c (List.mem_of_getElem? hk)
 have h5:(F.take k).length≤F.length:=by simp; omega
 have h6:(c.take m).length≤c.length:=by simp; omega
 have h7:(inB c m).length≤(Yf (c.take m)).length+1:=by
  unfold inB; rw [lA]; split <;> simp
 simp only [lA]
 omega
theorem Qd9:Qn 0=[48]:=by kernel_rfl
theorem Qou (hm:m<c.length) (h:c[m]?=some n):inB c (m+1)=inB c m++(Qn n++[32]):=by
 unfold inB Yf
 rw [QB h,List.map_append,List.flatten_append,if_neg (by omega),if_neg (by omega)]
 simp
theorem Qov (c:List Int):inB c (c.length+1)=inB c c.length++[48]:=by
 unfold inB
 rw [if_pos rfl,if_neg (by omega),List.take_length,List.take_of_length_le (by omega)]
 simp
theorem Qtu (c:List Int):Yf c++[48,10]=inB c (c.length+1)++[10]:=by
 unfold inB
 rw [if_pos rfl,List.take_of_length_le (by omega)]
 simp
theorem Qjv (h:F[k]?=some c):clB (F.take (k+1))=clB (F.take k)++(Yf c++[48,10]):=by
 unfold clB
 rw [QB h,List.map_append,List.flatten_append]
 simp
theorem Qbg (l:List UInt8) (b:UInt8):Lib.byteCells (l++[b])=Lib.byteCells l++[.int .u8 b.toNat]:=by simp [Lib.byteCells]
variable {x y:Value} {ρ:Names} {I:Imm}
theorem Quf {b:Bool} (h:VR I ρ (.bool b) x):x=.bool b:=by cases h; rfl
theorem VR_str {s:List UInt8} (h:VR I ρ (.str s) x):x=.string ⟨s.toArray⟩:=by cases h; rfl
theorem QhJ {v:V} (h:VR I ρ v x):Cells I ρ [v] #[x]:=⟨rfl,fun j v' x' h1 h2=>by
 match j,h1,h2 with
 | 0,h1,h2=>cases h1; cases h2; exact h
 | j+1,h1,h2=>simp at h1⟩
variable {w w':World}
theorem Qbr {P:Program} (It:QdU P G) (hn:-9223372036854775808≤n∧n≤9223372036854775807) {w1:World} (R:Rel G I ρ ⟨t,[]⟩ w) (h1:Below w.heap.size w w1) :
 Calls P ZF #[.int .i64 n] w1 fun e w'=>e=.returned (.string ⟨(Qn n).toArray⟩)∧Below w1.heap.size w1 w' :=
 (QnW (It n hn t) (QcD R h1) (QhJ (.int _ _ _))).mono fun e w' ⟨u,x,I',ρ',σ',e1,e2,_,_,e5,_,e7⟩=>by
  subst e7; rw [VR_str e2] at e1; exact ⟨e1,e5⟩
def headT:Tr:=.rd 0 (.rd 1 (.rd 5 (.rd 6 (.rd 7 (.op 2 true (.rd 3 (.rd 4 (.op 8 true (.rd 9 (.rd 10 (.op 11 false .done)))))))))))
def Qty (b1:Nat):SZ:=⟨⟨fun b _=>b=b1,fun _=>False⟩,⟨fun b _=>b=b1,fun _=>False⟩⟩
theorem Qc1 (h:Below w.heap.size w w') (hb:b1<w.heap.size):Ek ⟨fun b _=>b=b1,fun _=>False⟩ w w' :=
 ⟨h.os,h.tape,h.output,h.size,fun b o e=>by subst e; simp only [World.cell?,h.block _ hb],fun _ h=>h.elim⟩
theorem Qgk {B:Nat} (h:Below B w w') (hb:b1<B):Ek ⟨fun b _=>b=b1,fun _=>False⟩ w w' :=
 ⟨h.os,h.tape,h.output,h.size,fun b o e=>by subst e; simp only [World.cell?,h.block _ hb],fun _ h=>h.elim⟩
variable {o:Oper} {a:Act} {S:SZ} {Q:Act→World→Prop} {ops:Array Oper}
theorem Qf5 {P:Program} {t:Tr} {v:Value} (d:Nat) (ho:ops[i]?=some o) (hg:o.guard=none∧o.dst=some d)
 (hv:∀ w',Ek S.s w w'→(execOp a.eval o).run P w'=.ok (.value v) w') (h:RTree P ops Q t S (a.put (some d) v) w):RTree P ops Q (.rd i t) S a w :=
 ⟨o,v,ho,.inl ⟨by simp [Region.wanted,hg.1],hv⟩,hg.2▸h⟩
theorem Qh9 {P:Program} {k:Bool} {t:Tr} {f:FuncId} {args:Array Value} {R:Ending→World→Prop} (d:Nat) (ho:ops[i]?=some o) (hg:o.guard=none∧o.dst=some d)
 (hv:(execOp a.eval o).run P w=.ok (.enter f args) w) (hc:Calls P f args w R) (h:∀ e w',R e w'→∃ v,e=.returned v∧Ek S.z w w'∧Ek S.s w w'∧RTree P ops Q t S (a.put (some d) v) w'):RTree P ops Q (.op i k t) S a w:=by
 refine ⟨o,ho,?_⟩
 rw [if_pos (by simp [Region.wanted,hg.1]),op1,hv,hg.2]
 exact hc.mono fun e w' hr=>by
  obtain ⟨v,h1,h2,h3,h4⟩:=h e w' hr
  exact ⟨v,h1,S,⟨Sg.le.refl _,h2⟩,fun _=>⟨Sg.le.refl _,h3⟩,h4⟩
theorem Qs9 {a:Option Addr} {n cap:Nat} (hv:VR I ρ (fml v F) (.agg #[.int .i64 v,.slice a n cap])) (R:Rel G I ρ ⟨t,[]⟩ w) (h:F[k]?=some c) :
 ∃ b o y,a=some ⟨b,o,none⟩∧w.cell? ⟨b,o+k,none⟩=some y∧VR I noNames (row c) y:=by
 generalize hu:fml v F=u at hv
 cases hv with
 | agg _ l cs h1 h2 =>
   injection hu with hu
   subst hu
   have h3:=h2 1 (rows F) (.slice a n cap) rfl rfl
   clear h2
   generalize hu:rows F=u at h3
   cases h3 with
   | lst _ sz l _ b o _ f g0 g1 g2 g3 g4 g5 =>
     injection hu with e1 e2 e3
     subst e1 e2
     have hr:(F.map row)[k]?=some (row c):=by simp [h]
     have i1:=g4 k _ hr 0 (row c) rfl
     have i2:=g5 k _ hr 0 (row c) rfl
     refine ⟨b,o,_,rfl,?_,i2⟩
     have:=(R.imm _ _ _ i1).1
     simpa using this
   | lstN => 
     injection hu with e1 e2 e3
     have:F=[]:=by simpa using e2
     subst this; simp at h
   | val=>unfold rows at hu; cases hu
   | any=>unfold rows at hu; cases hu
   | slN=>unfold rows at hu; cases hu
   | sl=>unfold rows at hu; cases hu
 | _=>cases hu
abbrev prQ (p sv:Value) (n k:Nat) (c:List Int) (x0 x1 x2 x3 x5 x7 x9 x10 x11 x12 x13 x14 x15 x16 x17 x18 x19 x20 x21 x22 x23 x24 x49:Value):AE→Fr→H→Prop:=fun e fr σ=>e=.nrm∧∃ t' w,Qi fr 4=.val p∧Qi fr 25=.val sv∧Qi fr 26=.int .i64 n∧Qi fr 27=.int .i64 k∧Qi fr 34=.sl 0 w 0 1 (c.length+1) none∧Qi fr 35=.int .i64 ((c.length+1:Nat):Int)∧Qi fr 36=.int .i64 0∧Qi fr 0=.val x0∧Qi fr 1=.val x1∧Qi fr 2=.val x2∧Qi fr 3=.val x3∧Qi fr 5=.val x5∧Qi fr 7=.val x7∧Qi fr 9=.val x9∧Qi fr 10=.val x10∧Qi fr 11=.val x11∧Qi fr 12=.val x12∧Qi fr 13=.val x13∧Qi fr 14=.val x14∧Qi fr 15=.val x15∧Qi fr 16=.val x16∧Qi fr 17=.val x17∧Qi fr 18=.val x18∧Qi fr 19=.val x19∧Qi fr 20=.val x20∧Qi fr 21=.val x21∧Qi fr 22=.val x22∧Qi fr 23=.val x23∧Qi fr 24=.val x24∧Qi fr 49=.val x49∧σ=⟨t',[some (.arr w 3 (ints (c++[0])))]⟩
theorem Qta (hT:Qq Tryz.prog tab) (p sv:Value) (n k t:Nat) (c:List Int) (x0 x1 x2 x3 x5 x7 x9 x10 x11 x12 x13 x14 x15 x16 x17 x18 x19 x20 x21 x22 x23 x24 x49:Value) (hl:c.length≤1000) :
 sem Tryz.prog G 50 0 (prQ p sv n k c x0 x1 x2 x3 x5 x7 x9 x10 x11 x12 x13 x14 x15 x16 x17 x18 x19 x20 x21 x22 x23 x24 x49) [.ac (.reg Qky [31,32,33])] .nrm [(4,.val p),(25,.val sv),(26,.int .i64 n),(27,.int .i64 k),(6,row c),(0,.val x0),(1,.val x1),(2,.val x2),(3,.val x3),(5,.val x5),(7,.val x7),(9,.val x9),(10,.val x10),(11,.val x11),(12,.val x12),(13,.val x13),(14,.val x14),(15,.val x15),(16,.val x16),(17,.val x17),(18,.val x18),(19,.val x19),(20,.val x20),(21,.val x21),(22,.val x22),(23,.val x23),(24,.val x24),(49,.val x49)] ⟨t,[]⟩:=by
 refine Qe 1000 ?_
 simp only [row]
 simp -implicitDefEqProofs (disch:=omega) only [go_sem,↓reduceIte,reduceCtorEq,rq]
 refine call hT QJ (Qgz hT c (by omega)) 1000 fun u σ hu=>?_
 obtain ⟨t1,w,ht1,rfl,rfl⟩:=hu
 simp -implicitDefEqProofs (disch:=omega) only [go_sem,↓reduceIte,reduceCtorEq,rq,rL]
 exact ⟨rfl,t1+1,t1,rfl,rfl,rfl,rfl,rfl,rfl,rfl,rfl,rfl,rfl,rfl,rfl,rfl,rfl,rfl,rfl,rfl,rfl,rfl,rfl,rfl,rfl,rfl,rfl,rfl,rfl,rfl,rfl,rfl,rfl,by simp [ints]⟩
theorem Xt (h:VR I ρ (.val x) y):y=x:=by cases h; rfl
theorem QhI {k:IntKind} (h:VR I ρ (.int k n) y):y=.int k n:=by cases h; rfl
theorem row_of {w:Nat} {zs:List Int} {fv:V} {W:World} (R:Rel G I ρ ⟨t,[some (.arr w 3 (ints zs))]⟩ W) (hf:fv=.sl 0 w 0 1 zs.length none) (h:VR I ρ fv x) (hz:zs≠[]) :
 ∃ g o cap cc lo hi,x=.slice (some ⟨g,o,none⟩) zs.length cap∧W.heap[g]?=some (.cells cc 3 (lo,hi))∧(∀ (j:Nat) (n:Int),zs[j]?=some n→cc[o+j]?=some (.int .i64 n))∧blk ρ ⟨t,[some (.arr w 3 (ints zs))]⟩ 0=some g:=by
 subst hf
 have hlen:0<zs.length:=List.length_pos_iff.2 hz
 generalize hu:V.sl 0 w 0 1 zs.length none=u at h
 cases h with
 | sl _ n v off sz len lim b o e cap h1 h2 h3 h4 =>
   cases hu
   rcases R.objs 0 _ rfl with ⟨h0,_⟩ | ⟨b',o',e',cc,lo,hi,k1,k2,k3,k4,k5,k6⟩
   ·rw [h1] at h0; cases h0
   ·rw [h1] at k1; cases k1
    refine ⟨b,o,cap,cc,lo,hi,rfl,k2,fun j n hj=>?_,by simp [blk,Ob.ver,h1,Loc.block]⟩
    obtain ⟨y,g1,g2,_⟩:=k6 j (.int .i64 n) (by simp [ints,hj])
    cases g2; exact g1
 | slN=>injection hu; omega
 | _=>cases hu
theorem FR_of {n:Nat} (hd:a.defers=[]) (hs:a.tmps.size=n):∀ {fr:Fr},(∀ p∈fr,VR I ρ p.2 (a.tmps.getD p.1 undef))→FR I ρ n fr a:=fun {fr} h=>⟨hd,hs,fun t=>by
 induction fr with
 | nil=>exact .any _ _
 | cons p fr ih =>
   obtain ⟨k,v⟩:=p
   unfold Qi
   split
   ·rename_i e; have:=h (k,v) (by simp); subst e; exact this
   ·exact ih fun q hq=>h q (by simp [hq])⟩
end
end Go.Proofs.YtingdebioipemaaGreatDoor
