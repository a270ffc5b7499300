/- Ours. -/
import Derived.Test.YtbdhjeojcpgblaaGreatDoorAmD
import Derived.Test.YtbdhjeojcpgblaaGreatDoorTabB
import Derived.KernelRfl
import Derived.Test.YtbdhjeojcpgblaaGreatDoorY
open Nat renaming reduceEqDiff → rq, reduceAdd → rA, reduceLeDiff → rL, reduceLT → rT, zero_add → zA, le_refl → lR, zero_le → zL, add_zero → aZ
open List renaming length_cons → lC, length_nil → lN, take_succ_cons → tSq, length_append → lA, nil_append → nA, cons_append → cA, append_assoc → aA, take_nil → tN, take_zero → tZ, length_map → lM
open Bool renaming not_false → nF, not_true → nT
namespace Go.Rv
open Go Go.Am
set_option maxRecDepth 100000
def fld (w:Int) (a m:Nat):Int:=w / 2 ^ a % 2 ^ m
structure In where
 op:Int
 rd:Int
 rs1:Int
 rs2:Int
 imm:Int
 deriving DecidableEq
structure RR where
 form:Int
 name:List UInt8
 code:Int
 f3:Int
 f7:Int
 deriving DecidableEq
def is (w:Int) (r:RR):Bool :=
 if r.form=69 then decide (w=r.code∧r.name=[101,99,97,108,108]∨w=1048691∧r.name=[101,98,114,101,97,107])
 else if r.form=85∨r.form=74 then decide (fld w 0 7=r.code)
 else if r.form=72 then decide (fld w 0 7=r.code∧fld w 12 3=r.f3∧fld w 26 6=r.f7 / 2)
 else if r.form=82∨r.form=87 then decide (fld w 0 7=r.code∧fld w 12 3=r.f3∧fld w 25 7=r.f7)
 else decide (fld w 0 7=r.code∧fld w 12 3=r.f3)
def Zt (f:Int):Bool:=f=82∨f=73∨f=72∨f=87∨f=85∨f=74
def Qao (f:Int):Bool:=f=82∨f=73∨f=72∨f=87∨f=83∨f=66
def QaO (f:Int):Bool:=f=82∨f=83∨f=66
def sgn (n:Int) (b:Nat):Int:=if n≥2 ^ (b - 1) then n - 2 ^ b else n
def number (w f:Int):Int :=
 if f=73 then sgn (fld w 20 12) 12
 else if f=72 then fld w 20 6
 else if f=87 then fld w 20 5
 else if f=83 then sgn (fld w 25 7 * 32+fld w 7 5) 12
 else if f=66 then sgn (fld w 31 1 * 4096+fld w 7 1 * 2048+fld w 25 6 * 32+fld w 8 4 * 2) 13
 else if f=85 then sgn (fld w 12 20 * 4096) 32
 else if f=74 then sgn (fld w 31 1 * 1048576+fld w 12 8 * 4096+fld w 20 1 * 2048+fld w 21 10 * 2) 21
 else 0
def room (f n:Int):Bool :=
 if f=73∨f=83 then decide (-2048≤n∧n≤2047)
 else if f=72 then decide (0≤n∧n≤63)
 else if f=87 then decide (0≤n∧n≤31)
 else if f=66 then decide (-4096≤n∧n≤4094∧n % 2=0)
 else if f=85 then decide (-2147483648≤n∧n<2147483648∧n % 4096=0)
 else if f=74 then decide (-1048576≤n∧n<1048576∧n % 2=0)
 else decide (n=0)
def spread (f n:Int):Int :=
 if f=73∨f=72∨f=87 then n % 4096 * 1048576
 else if f=83 then n / 32 % 128 * 33554432+n % 32 * 128
 else if f=66 then n / 4096 % 2 * 2147483648+n / 32 % 64 * 33554432+n / 2 % 16 * 256+n / 2048 % 2 * 128
 else if f=85 then n / 4096 % 1048576 * 4096
 else if f=74 then n / 1048576 % 2 * 2147483648+n / 2 % 1024 * 2097152+n / 2048 % 2 * 1048576+n / 4096 % 256 * 4096
 else 0
def mk (i:Nat) (r:RR) (w:Int):In :=
 ⟨i+1,if Zt r.form then fld w 7 5 else 0,if Qao r.form then fld w 15 5 else 0,if QaO r.form then fld w 20 5 else 0,number w r.form⟩
def first (w:Int):Nat→List RR→Option In
 | _,[]=>none
 | i,r::l=>if is w r then some (mk i r w) else first w (i+1) l
def Yy (r:RR):Int:=if r.name=[101,98,114,101,97,107] then 1048691 else r.code+r.f3 * 4096+r.f7 * 33554432
def enc (T:List RR) (x:In):Int × Int :=
 if 1≤x.op∧x.op≤T.length then
  match T[(x.op - 1).toNat]? with
  | none=>(0,100)
  | some r =>
    if x.rd > 31∨x.rs1 > 31∨x.rs2 > 31∨(Zt r.form=false∧x.rd≠0)∨(Qao r.form=false∧x.rs1≠0)∨(QaO r.form=false∧x.rs2≠0)∨((r.form=82∨r.form=69)∧x.imm≠0) then (0,100)
    else if room r.form x.imm=false then (0,101)
    else (Yy r+x.rd * 128+x.rs1 * 32768+x.rs2 * 1048576+spread r.form x.imm,0)
 else (0,100)
def T:List RR:=[
 ⟨85,[108,117,105],55,0,0⟩,
 ⟨85,[97,117,105,112,99],23,0,0⟩,
 ⟨74,[106,97,108],111,0,0⟩,
 ⟨73,[106,97,108,114],103,0,0⟩,
 ⟨66,[98,101,113],99,0,0⟩,
 ⟨66,[98,110,101],99,1,0⟩,
 ⟨66,[98,108,116],99,4,0⟩,
 ⟨66,[98,103,101],99,5,0⟩,
 ⟨66,[98,108,116,117],99,6,0⟩,
 ⟨66,[98,103,101,117],99,7,0⟩,
 ⟨73,[108,98],3,0,0⟩,
 ⟨73,[108,104],3,1,0⟩,
 ⟨73,[108,119],3,2,0⟩,
 ⟨73,[108,100],3,3,0⟩,
 ⟨73,[108,98,117],3,4,0⟩,
 ⟨73,[108,104,117],3,5,0⟩,
 ⟨73,[108,119,117],3,6,0⟩,
 ⟨83,[115,98],35,0,0⟩,
 ⟨83,[115,104],35,1,0⟩,
 ⟨83,[115,119],35,2,0⟩,
 ⟨83,[115,100],35,3,0⟩,
 ⟨73,[97,100,100,105],19,0,0⟩,
 ⟨73,[115,108,116,105],19,2,0⟩,
 ⟨73,[115,108,116,105,117],19,3,0⟩,
 ⟨73,[120,111,114,105],19,4,0⟩,
 ⟨73,[111,114,105],19,6,0⟩,
 ⟨73,[97,110,100,105],19,7,0⟩,
 ⟨72,[115,108,108,105],19,1,0⟩,
 ⟨72,[115,114,108,105],19,5,0⟩,
 ⟨72,[115,114,97,105],19,5,32⟩,
 ⟨82,[97,100,100],51,0,0⟩,
 ⟨82,[115,117,98],51,0,32⟩,
 ⟨82,[115,108,108],51,1,0⟩,
 ⟨82,[115,108,116],51,2,0⟩,
 ⟨82,[115,108,116,117],51,3,0⟩,
 ⟨82,[120,111,114],51,4,0⟩,
 ⟨82,[115,114,108],51,5,0⟩,
 ⟨82,[115,114,97],51,5,32⟩,
 ⟨82,[111,114],51,6,0⟩,
 ⟨82,[97,110,100],51,7,0⟩,
 ⟨73,[97,100,100,105,119],27,0,0⟩,
 ⟨87,[115,108,108,105,119],27,1,0⟩,
 ⟨87,[115,114,108,105,119],27,5,0⟩,
 ⟨87,[115,114,97,105,119],27,5,32⟩,
 ⟨82,[97,100,100,119],59,0,0⟩,
 ⟨82,[115,117,98,119],59,0,32⟩,
 ⟨82,[115,108,108,119],59,1,0⟩,
 ⟨82,[115,114,108,119],59,5,0⟩,
 ⟨82,[115,114,97,119],59,5,32⟩,
 ⟨82,[109,117,108],51,0,1⟩,
 ⟨82,[109,117,108,104],51,1,1⟩,
 ⟨82,[109,117,108,104,115,117],51,2,1⟩,
 ⟨82,[109,117,108,104,117],51,3,1⟩,
 ⟨82,[100,105,118],51,4,1⟩,
 ⟨82,[100,105,118,117],51,5,1⟩,
 ⟨82,[114,101,109],51,6,1⟩,
 ⟨82,[114,101,109,117],51,7,1⟩,
 ⟨82,[109,117,108,119],59,0,1⟩,
 ⟨82,[100,105,118,119],59,4,1⟩,
 ⟨82,[100,105,118,117,119],59,5,1⟩,
 ⟨82,[114,101,109,119],59,6,1⟩,
 ⟨82,[114,101,109,117,119],59,7,1⟩,
 ⟨73,[102,101,110,99,101],15,0,0⟩,
 ⟨69,[101,99,97,108,108],115,0,0⟩,
 ⟨69,[101,98,114,101,97,107],115,0,0⟩]
def Qpg:List UInt8:=[101,99,97,108,108]
def QaK:List UInt8:=[101,98,114,101,97,107]
def QxD (r:RR):Bool :=
 decide (0≤r.code∧r.code<128∧0≤r.f3∧r.f3<8∧0≤r.f7∧r.f7<128) &&
 (decide (r.form=82∧r.name≠QaK) || decide (r.form=87∧r.name≠QaK) || decide (r.form=73∧r.f7=0∧r.name≠QaK) || decide (r.form=72∧r.f7 % 2=0∧r.name≠QaK) || decide (r.form=83∧r.f7=0∧r.name≠QaK) || decide (r.form=66∧r.f7=0∧r.name≠QaK) ||
  decide (r.form=85∧r.f3=0∧r.f7=0∧r.name≠QaK) || decide (r.form=74∧r.f3=0∧r.f7=0∧r.name≠QaK) || decide (r.form=69∧r.code=115∧r.f3=0∧r.f7=0∧(r.name=Qpg∨r.name=QaK)))
theorem QnV:∀ r∈T,QxD r=true:=by
 have:T.all QxD=true:=by decide +kernel
 exact List.all_eq_true.1 this
theorem QoD:T.length=65:=rfl
def apart (r s:RR):Bool :=
 decide (r.code≠s.code) || decide (r.form≠85∧r.form≠74∧r.form≠69∧s.form≠85∧s.form≠74∧s.form≠69∧r.f3≠s.f3) ||
 decide ((r.form=82∨r.form=87∨r.form=72)∧(s.form=82∨s.form=87∨s.form=72)∧r.f7 / 2≠s.f7 / 2) ||
 decide ((r.form=82∨r.form=87)∧(s.form=82∨s.form=87)∧r.f7≠s.f7) || decide (r.form=69∧s.form=69∧r.name≠s.name)
def Qw1 (r:RR):List RR→Bool
 | []=>true
 | s::l=>apart r s&&Qw1 r l
def Qw2:List RR→Bool
 | []=>true
 | r::l=>Qw1 r l&&Qw2 l
theorem QD0:Qw2 T=true:=by decide +kernel
variable {r:RR}
theorem QwE {w:Int} (hg:QxD r=true) (h:is w r=true) (h0:0≤w) (h1:w<4294967296):w % 128=r.code∧(r.form≠85→r.form≠74→w / 4096 % 8=r.f3)∧(r.form=82∨r.form=87∨r.form=72→w / 67108864=r.f7 / 2) ∧
 (r.form=82∨r.form=87→w / 33554432=r.f7)∧(r.form=69→(w=115∧r.name=Qpg)∨(w=1048691∧r.name=QaK)):=by
 simp only [QxD,Bool.and_eq_true,Bool.or_eq_true,decide_eq_true_eq,or_assoc] at hg
 obtain ⟨⟨c0,c1,a0,a1,b0,b1⟩,hf⟩:=hg
 rcases hf with hf | hf | hf | hf | hf | hf | hf | hf | hf <;> simp [is,hf,fld] at h ⊢ <;> (try omega)
 obtain ⟨_,hf1,hf2,hf3,hf4⟩:=hf
 simp only [Qpg,QaK] at *
 rcases h with ⟨h,h'⟩ | ⟨h,h'⟩
 ·refine ⟨by omega,by omega,.inl ⟨h,h'⟩⟩
 ·refine ⟨by omega,by omega,.inr ⟨h,h'⟩⟩
theorem QFk {w:Int} {s:RR} (hr:QxD r=true) (hs:QxD s=true) (h0:0≤w) (h1:w<4294967296) (ha:apart r s=true) (h:is w r=true):is w s=false:=by
 cases h':is w s with
 | false=>rfl
 | true =>
   exfalso
   obtain ⟨a1,a2,a3,a4,a5⟩:=QwE hr h h0 h1
   obtain ⟨b1,b2,b3,b4,b5⟩:=QwE hs h' h0 h1
   simp only [apart,Bool.or_eq_true,decide_eq_true_eq,or_assoc] at ha
   rcases ha with ha | ha | ha | ha | ha
   ·exact ha (a1.symm.trans b1)
   ·exact ha.2.2.2.2.2.2 ((a2 ha.1 ha.2.1).symm.trans (b2 ha.2.2.2.1 ha.2.2.2.2.1))
   ·exact ha.2.2 ((a3 ha.1).symm.trans (b3 ha.2.1))
   ·exact ha.2.2 ((a4 ha.1).symm.trans (b4 ha.2.1))
   ·rcases a5 ha.1 with ⟨c,c'⟩ | ⟨c,c'⟩ <;> rcases b5 ha.2.1 with ⟨d,d'⟩ | ⟨d,d'⟩
    ·exact ha.2.2 (c'.trans d'.symm)
    ·omega
    ·omega
    ·exact ha.2.2 (c'.trans d'.symm)
theorem Qpp {r:RR}:∀ {l:List RR},Qw1 r l=true→∀ s∈l,apart r s=true
 | s::l,h,t,ht=>by
   simp only [Qw1,Bool.and_eq_true] at h
   simp only [List.mem_cons] at ht
   rcases ht with rfl | ht
   ·exact h.1
   ·exact Qpp h.2 t ht
theorem Qpc {w:Int}:∀ {l:List RR} {i:Nat},(∀ r∈l,is w r=false)→first w i l=none
 | [],_,_=>rfl
 | r::l,i,h=>by
   simp only [first,h r List.mem_cons_self,Bool.false_eq_true,if_false]
   exact Qpc fun s hs=>h s (List.mem_cons_of_mem _ hs)
theorem Qqa {w:Int} (h0:0≤w) (h1:w<4294967296):∀ {l:List RR} {i k:Nat} {r:RR},(∀ r∈l,QxD r=true)→Qw2 l=true→l[k]?=some r→is w r=true→first w i l=some (mk (i+k) r w)
 | r::l,i,0,s,hg,_,hk,hi=>by
   simp at hk; subst hk
   simp [first,hi]
 | r::l,i,k+1,s,hg,ha,hk,hi=>by
   simp only [List.getElem?_cons_succ] at hk
   simp only [Qw2,Bool.and_eq_true] at ha
   have hm:=List.mem_of_getElem? hk
   have hr:is w r=false:=by
    cases h:is w r with
    | false=>rfl
    | true=>rw [QFk (hg r List.mem_cons_self) (hg s (List.mem_cons_of_mem _ hm)) h0 h1 (Qpp ha.1 s hm) h] at hi; cases hi
   simp only [first,hr,Bool.false_eq_true,if_false]
   rw [Qqa h0 h1 (fun t ht=>hg t (List.mem_cons_of_mem _ ht)) ha.2 hk hi]
   congr 2; omega
theorem Qpb {w:Int}:∀ {l:List RR} {i:Nat} {x:In},first w i l=some x→∃ k r,l[k]?=some r∧is w r=true∧x=mk (i+k) r w
 | r::l,i,x,h=>by
   simp only [first] at h
   split at h
   ·rename_i hi
    exact ⟨0,r,rfl,hi,by simpa using h.symm⟩
   ·obtain ⟨k,s,h1,h2,h3⟩:=Qpb h
    exact ⟨k+1,s,h1,h2,by rw [h3]; congr 1; omega⟩
theorem Qrx {n:Int} {b:Nat} (p q:Int) (hp:(2:Int) ^ b=p) (hq:(2:Int) ^ (b - 1)=q):(sgn n b=n∧n<q)∨(sgn n b=n - p∧q≤n):=by
 unfold sgn
 rw [hp,hq]
 split
 ·exact .inr ⟨rfl,by omega⟩
 ·exact .inl ⟨rfl,by omega⟩
section
variable {w:Int} (h0:0≤w) (h1:w<4294967296)
include h0 h1
omit h0 h1 in
theorem nH:room 72 (number w 72)=true∧spread 72 (number w 72)=w / 1048576 % 64 * 1048576:=by
 simp only [number,room,spread,fld,Int.reduceEq,if_true,if_false,or_true,or_false,Int.reducePow,decide_eq_true_eq]
 omega
omit h0 h1 in
theorem nW:room 87 (number w 87)=true∧spread 87 (number w 87)=w / 1048576 % 32 * 1048576:=by
 simp only [number,room,spread,fld,Int.reduceEq,if_true,if_false,or_true,or_false,Int.reducePow,decide_eq_true_eq]
 omega
omit h0 h1 in
theorem nR:room 82 0=true∧spread 82 0=0∧number w 82=0:=by simp [number,room,spread]
omit h0 h1 in
theorem nE:room 69 0=true∧spread 69 0=0∧number w 69=0:=by simp [number,room,spread]
end
section
variable {w n:Int}
theorem mI (h:room 73 n=true) (hw:w / 1048576 % 4096=n % 4096):number w 73=n:=by
 simp only [number,room,fld,Int.reduceEq,if_true,if_false,true_or,Int.reducePow,decide_eq_true_eq] at *
 rw [hw]
 rcases Qrx (n:=n % 4096) (b:=12) 4096 2048 rfl rfl with ⟨e,h⟩ | ⟨e,h⟩ <;> rw [e] <;> omega
theorem mS (h:room 83 n=true) (hw:w / 33554432 % 128=n / 32 % 128) (hv:w / 128 % 32=n % 32):number w 83=n:=by
 simp only [number,room,fld,Int.reduceEq,if_true,if_false,or_true,Int.reducePow,decide_eq_true_eq] at *
 rw [hw,hv]
 have e:n / 32 % 128 * 32+n % 32=n % 4096:=by omega
 rw [e]
 rcases Qrx (n:=n % 4096) (b:=12) 4096 2048 rfl rfl with ⟨e,h⟩ | ⟨e,h⟩ <;> rw [e] <;> omega
theorem mH (h:room 72 n=true) (hw:w / 1048576 % 64=n):number w 72=n:=by
 simp only [number,fld,Int.reduceEq,if_true,if_false,Int.reducePow] at *
 exact hw
theorem mW (h:room 87 n=true) (hw:w / 1048576 % 32=n):number w 87=n:=by
 simp only [number,fld,Int.reduceEq,if_true,if_false,Int.reducePow] at *
 exact hw
theorem mB (h:room 66 n=true) (h1:w / 2147483648 % 2=n / 4096 % 2) (h2:w / 33554432 % 64=n / 32 % 64) (h3:w / 256 % 16=n / 2 % 16) (h4:w / 128 % 2=n / 2048 % 2):number w 66=n:=by
 simp only [number,room,fld,Int.reduceEq,if_true,if_false,or_false,Int.reducePow,decide_eq_true_eq] at *
 rw [h1,h2,h3,h4]
 have e:n / 4096 % 2 * 4096+n / 2048 % 2 * 2048+n / 32 % 64 * 32+n / 2 % 16 * 2=n % 8192:=by
  clear h1 h2 h3 h4
  have a1:n % 8192=n % 4096+n / 4096 % 2 * 4096:=by omega
  have a2:n % 4096=n % 2048+n / 2048 % 2 * 2048:=by omega
  have a3:n % 2048=n % 32+n / 32 % 64 * 32:=by omega
  have a4:n % 32=n / 2 % 16 * 2:=by omega
  omega
 rw [e]
 rcases Qrx (n:=n % 8192) (b:=13) 8192 4096 rfl rfl with ⟨e,h⟩ | ⟨e,h⟩ <;> rw [e] <;> omega
theorem mU (h:room 85 n=true) (h1:w / 4096 % 1048576=n / 4096 % 1048576):number w 85=n:=by
 simp only [number,room,fld,Int.reduceEq,if_true,if_false,or_false,Int.reducePow,decide_eq_true_eq] at *
 rw [h1]
 rcases Qrx (n:=n / 4096 % 1048576 * 4096) (b:=32) 4294967296 2147483648 rfl rfl with ⟨e,h⟩ | ⟨e,h⟩ <;> rw [e] <;> omega
theorem mJ (h:room 74 n=true) (h1:w / 2147483648 % 2=n / 1048576 % 2) (h2:w / 2097152 % 1024=n / 2 % 1024) (h3:w / 1048576 % 2=n / 2048 % 2) (h4:w / 4096 % 256=n / 4096 % 256):number w 74=n:=by
 simp only [number,room,fld,Int.reduceEq,if_true,if_false,or_false,Int.reducePow,decide_eq_true_eq] at *
 rw [h1,h2,h3,h4]
 have e:n / 1048576 % 2 * 1048576+n / 4096 % 256 * 4096+n / 2048 % 2 * 2048+n / 2 % 1024 * 2=n % 2097152:=by
  clear h1 h2 h3 h4
  have a1:n % 2097152=n % 1048576+n / 1048576 % 2 * 1048576:=by omega
  have a2:n % 1048576=n % 4096+n / 4096 % 256 * 4096:=by omega
  have a3:n % 4096=n % 2048+n / 2048 % 2 * 2048:=by omega
  have a4:n % 2048=n / 2 % 1024 * 2:=by omega
  omega
 rw [e]
 rcases Qrx (n:=n % 2097152) (b:=21) 2097152 1048576 rfl rfl with ⟨e,h⟩ | ⟨e,h⟩ <;> rw [e] <;> omega
end
theorem Qrv (f n:Int) (hf:f=73∨f=72∨f=87∨f=83∨f=66∨f=85∨f=74∨f=82∨f=69) :
 ∃ a b c d:Int,0≤a∧a<32∧0≤b∧b<256∧0≤c∧c<32∧0≤d∧d<128∧spread f n=a * 128+b * 4096+c * 1048576+d * 33554432 ∧
   (f=73∨f=72∨f=87→a=0∧b=0∧d * 32+c=n % 4096)∧(f=83→b=0∧c=0∧a=n % 32∧d=n / 32 % 128) ∧
   (f=66→b=0∧c=0∧a=n / 2 % 16 * 2+n / 2048 % 2∧d=n / 4096 % 2 * 64+n / 32 % 64)∧(f=85→a=0∧d * 8192+c * 256+b=n / 4096 % 1048576) ∧
   (f=74→a=0∧b=n / 4096 % 256∧d * 32+c=n / 1048576 % 2 * 2048+n / 2 % 1024 * 2+n / 2048 % 2)∧(f=82∨f=69→a=0∧b=0∧c=0∧d=0):=by
 rcases hf with rfl | rfl | rfl | rfl | rfl | rfl | rfl | rfl | rfl
 ·exact ⟨0,0,n % 32,n / 32 % 128,by omega,by omega,by omega,by omega,by omega,by omega,by omega,by omega,by simp [spread]; omega,by simp; omega,by simp,by simp,by simp,by simp,by simp⟩
 ·exact ⟨0,0,n % 32,n / 32 % 128,by omega,by omega,by omega,by omega,by omega,by omega,by omega,by omega,by simp [spread]; omega,by simp; omega,by simp,by simp,by simp,by simp,by simp⟩
 ·exact ⟨0,0,n % 32,n / 32 % 128,by omega,by omega,by omega,by omega,by omega,by omega,by omega,by omega,by simp [spread]; omega,by simp; omega,by simp,by simp,by simp,by simp,by simp⟩
 ·exact ⟨n % 32,0,0,n / 32 % 128,by omega,by omega,by omega,by omega,by omega,by omega,by omega,by omega,by simp [spread]; omega,by simp,by simp,by simp,by simp,by simp,by simp⟩
 ·exact ⟨n / 2 % 16 * 2+n / 2048 % 2,0,0,n / 4096 % 2 * 64+n / 32 % 64,by omega,by omega,by omega,by omega,by omega,by omega,by omega,by omega,by simp [spread]; omega,by simp,by simp,by simp,by simp,by simp,by simp⟩
 ·exact ⟨0,n / 4096 % 256,n / 1048576 % 32,n / 33554432 % 128,by omega,by omega,by omega,by omega,by omega,by omega,by omega,by omega,by simp [spread]; omega,by simp,by simp,by simp,by simp; omega,by simp,by simp⟩
 ·exact ⟨0,n / 4096 % 256,(n / 2 % 16) * 2+n / 2048 % 2,n / 1048576 % 2 * 64+n / 32 % 64,by omega,by omega,by omega,by omega,by omega,by omega,by omega,by omega,by simp [spread]; omega,by simp,by simp,by simp,by simp,by simp; omega,by simp⟩
 ·exact ⟨0,0,0,0,by omega,by omega,by omega,by omega,by omega,by omega,by omega,by omega,by simp [spread],by simp,by simp,by simp,by simp,by simp,by simp⟩
 ·exact ⟨0,0,0,0,by omega,by omega,by omega,by omega,by omega,by omega,by omega,by omega,by simp [spread],by simp,by simp,by simp,by simp,by simp,by simp⟩
theorem digits {w a0 a1 a2 a3 a4 a5:Int} (h:w=a0+a1 * 128+a2 * 4096+a3 * 32768+a4 * 1048576+a5 * 33554432) (h0:0≤a0) (g0:a0<128) (h1:0≤a1) (g1:a1<32) (h2:0≤a2) (g2:a2<8)
 (h3:0≤a3) (g3:a3<32) (h4:0≤a4) (g4:a4<32) (h5:0≤a5) (g5:a5<128):0≤w∧w<4294967296∧w % 128=a0∧w / 128 % 32=a1∧w / 4096 % 8=a2∧w / 32768 % 32=a3∧w / 1048576 % 32=a4∧w / 33554432 % 128=a5 ∧
  w / 33554432=a5∧w / 1048576=a4+a5 * 32∧w / 4096=a2+a3 * 8+a4 * 256+a5 * 8192:=by
 subst h
 refine ⟨by omega,by omega,by omega,by omega,by omega,by omega,by omega,by omega,by omega,by omega,by omega⟩
theorem z1 {p q c:Int} (k:Int) (hk:0<k) (h:c=p * k+q) (h1:0≤q) (h2:q<k):c / k=p∧c % k=q:=by
 subst h
 have e:p * k+q=q+k * p:=by rw [Int.mul_comm]; omega
 rw [e,Int.add_mul_ediv_left _ _ (by omega),Int.add_mul_emod_self_left,Int.ediv_eq_zero_of_lt h1 h2,Int.emod_eq_of_lt h1 h2]
 omega
theorem q1 (w:Int):w / 2147483648=w / 33554432 / 64:=by omega
theorem q2 (w:Int):w / 33554432 % 64=w / 33554432 % 128 % 64:=by omega
theorem q3 (w:Int):w / 256 % 16=w / 128 % 32 / 2:=by omega
theorem q4 (w:Int):w / 128 % 2=w / 128 % 32 % 2:=by omega
theorem q5 (w:Int):w / 2147483648=w / 1048576 / 2048:=by omega
theorem q6 (w:Int):w / 2097152=w / 1048576 / 2:=by omega
theorem q7 (w:Int):w / 67108864=w / 33554432 / 2:=by omega
variable {x:In}
theorem QDd {w:Int} (h:enc T x=(w,0)) (hd:0≤x.rd) (h1:0≤x.rs1) (h2:0≤x.rs2):0≤w∧w<4294967296∧first w 0 T=some x:=by
 unfold enc at h
 split at h
 rotate_left
 ·simp at h
 rename_i hop
 have hop2:=hop.2
 rw [QoD] at hop2
 obtain ⟨r,hk⟩:∃ r,T[(x.op - 1).toNat]?=some r:=⟨_,List.getElem?_eq_getElem (by rw [QoD]; omega)⟩
 rw [hk] at h
 simp only at h
 split at h
 ·simp at h
 rename_i hc
 split at h
 ·simp at h
 rename_i hr
 simp only [Prod.mk.injEq,and_true] at h
 have hr:room r.form x.imm=true:=by simpa using hr
 have hg0:=QnV r (List.mem_of_getElem? hk)
 have hg:=hg0
 simp only [QxD,Bool.and_eq_true,Bool.or_eq_true,decide_eq_true_eq,or_assoc] at hg
 obtain ⟨⟨c0,c1,a0,a1,b0,b1⟩,hf⟩:=hg
 simp only [Qpg,QaK] at hf
 obtain ⟨a,b,c,d,ha0,ha1,hb0,hb1,hc0,hc1,hd0,hd1,hs,s1,s2,s3,s4,s5,s6⟩:=Qrv r.form x.imm (by rcases hf with hf | hf | hf | hf | hf | hf | hf | hf | hf <;> simp [hf])
 rw [hs] at h
 have key:0≤w∧w<4294967296∧is w r=true∧mk (x.op - 1).toNat r w=x:=by
  obtain ⟨xop,xrd,xr1,xr2,imm⟩:=x
  simp only at *
  have hopn:(((xop - 1).toNat:Nat):Int)+1=xop:=by omega
  clear hk hop hop2
  have nn:∀ p:Prop,(¬¬p)=p:=fun p=>by simp
  try simp only [nn] at hc
  rcases hf with hf | hf | hf | hf | hf | hf | hf | hf | hf
  rotate_left 8
  have hnm:∃ b:Bool,r.name=cond b [101,98,114,101,97,107] [101,99,97,108,108]:=by
   obtain ⟨_,_,_,_,hn | hn⟩:=hf
   ·exact ⟨false,hn⟩
   ·exact ⟨true,hn⟩
  rotate_left 4
  have hev:∃ q,r.f7=2 * q:=⟨r.f7 / 2,by omega⟩
  rotate_right 3
  all_goals (obtain ⟨hf0,hf⟩:=hf; simp only [hf0,hf,is,mk,hopn,Yy,Zt,Qao,QaO,fld,In.mk.injEq,if_true,if_false,Int.reduceEq,or_true,false_or,or_false,true_implies,false_implies,ne_eq,not_false_eq_true,true_and,and_true,false_and,and_false,decide_true,decide_false,Bool.true_eq_false,Int.reducePow,Int.ediv_one,decide_eq_true_eq,Bool.false_eq_true,not_or,nn] at *)
  ·obtain ⟨rfl,rfl,rfl,rfl⟩:=s6
   obtain ⟨d0,d1,d2,d3,d4,d5,d6,d7,d8,d9,d10⟩:=digits (w:=w) (a0:=r.code) (a1:=xrd) (a2:=r.f3) (a3:=xr1) (a4:=xr2) (a5:=r.f7) (by omega) (by omega) (by omega) (by omega) (by omega) (by omega) (by omega) (by omega) (by omega) (by omega) (by omega) (by omega) (by omega)
   refine ⟨d0,d1,⟨d2,d4,d7⟩,d3,d5,d6,?_⟩
   rw [hc.2.2.2]; simp [number]
  ·obtain ⟨rfl,rfl,s1⟩:=s1
   have hq:0≤imm∧imm≤31:=by simpa [room] using hr
   obtain ⟨d0,d1,d2,d3,d4,d5,d6,d7,d8,d9,d10⟩:=digits (w:=w) (a0:=r.code) (a1:=xrd) (a2:=r.f3) (a3:=xr1) (a4:=imm) (a5:=r.f7) (by omega) (by omega) (by omega) (by omega) (by omega) (by omega) (by omega) (by omega) (by omega) (by omega) (by omega) (by omega) (by omega)
   exact ⟨d0,d1,⟨d2,d4,d7⟩,d3,d5,hc.2.2.2.symm,mW hr d6⟩
  ·obtain ⟨rfl,rfl,s1⟩:=s1
   obtain ⟨d0,d1,d2,d3,d4,d5,d6,d7,d8,d9,d10⟩:=digits (w:=w) (a0:=r.code) (a1:=xrd) (a2:=r.f3) (a3:=xr1) (a4:=c) (a5:=d) (by omega) (by omega) (by omega) (by omega) (by omega) (by omega) (by omega) (by omega) (by omega) (by omega) (by omega) (by omega) (by omega)
   exact ⟨d0,d1,⟨d2,d4⟩,d3,d5,hc.2.2.2.symm,mI hr (by omega)⟩
  ·obtain ⟨rfl,rfl,s1⟩:=s1
   have hq:0≤imm∧imm≤63:=by simpa [room] using hr
   obtain ⟨q,hev⟩:=hev
   have e1:c+d * 32=imm:=by omega
   obtain ⟨d0,d1,d2,d3,d4,d5,d6,d7,d8,d9,d10⟩:=digits (w:=w) (a0:=r.code) (a1:=xrd) (a2:=r.f3) (a3:=xr1) (a4:=c) (a5:=r.f7+d) (by omega) (by omega) (by omega) (by omega) (by omega) (by omega) (by omega) (by omega) (by omega) (by omega) (by omega) (by omega) (by omega)
   refine ⟨d0,d1,⟨d2,d4,?_⟩,d3,d5,hc.2.2.2.symm,mH hr ?_⟩
   ·rw [q7,d8]; clear h d9 d10 d8 d7 d6 d5 d4 d3 d2; omega
   ·rw [d9]; clear h d9 d10 d8 d7 d6 d5 d4 d3 d2; omega
  ·obtain ⟨rfl,rfl,s1,s2⟩:=s2
   obtain ⟨d0,d1,d2,d3,d4,d5,d6,d7,d8,d9,d10⟩:=digits (w:=w) (a0:=r.code) (a1:=a) (a2:=r.f3) (a3:=xr1) (a4:=xr2) (a5:=d) (by omega) (by omega) (by omega) (by omega) (by omega) (by omega) (by omega) (by omega) (by omega) (by omega) (by omega) (by omega) (by omega)
   exact ⟨d0,d1,⟨d2,d4⟩,hc.2.2.2.symm,d5,d6,mS hr (by omega) (by omega)⟩
  ·obtain ⟨rfl,rfl,s1,s2⟩:=s3
   obtain ⟨d0,d1,d2,d3,d4,d5,d6,d7,d8,d9,d10⟩:=digits (w:=w) (a0:=r.code) (a1:=a) (a2:=r.f3) (a3:=xr1) (a4:=xr2) (a5:=d) (by omega) (by omega) (by omega) (by omega) (by omega) (by omega) (by omega) (by omega) (by omega) (by omega) (by omega) (by omega) (by omega)
   refine ⟨d0,d1,⟨d2,d4⟩,hc.2.2.2.symm,d5,d6,mB hr ?_ ?_ ?_ ?_⟩
   ·rw [q1,d8,(z1 64 (by omega) s2 (by omega) (by omega)).1]; omega
   ·rw [q2,d7]; clear h d9 d10 d8 d7 d6 d5 d4 d3 d2; omega
   ·rw [q3,d3]; clear h d9 d10 d8 d7 d6 d5 d4 d3 d2; omega
   ·rw [q4,d3]; clear h d9 d10 d8 d7 d6 d5 d4 d3 d2; omega
  ·obtain ⟨rfl,s1⟩:=s4
   obtain ⟨d0,d1,d2,d3,d4,d5,d6,d7,d8,d9,d10⟩:=digits (w:=w) (a0:=r.code) (a1:=xrd) (a2:=b % 8) (a3:=b / 8) (a4:=c) (a5:=d) (by omega) (by omega) (by omega) (by omega) (by omega) (by omega) (by omega) (by omega) (by omega) (by omega) (by omega) (by omega) (by omega)
   refine ⟨d0,d1,d2,d3,hc.2.2.2.1.symm,hc.2.2.2.2.symm,mU hr ?_⟩
   rw [d10]; omega
  ·obtain ⟨rfl,s1,s2⟩:=s5
   obtain ⟨d0,d1,d2,d3,d4,d5,d6,d7,d8,d9,d10⟩:=digits (w:=w) (a0:=r.code) (a1:=xrd) (a2:=b % 8) (a3:=b / 8) (a4:=c) (a5:=d) (by omega) (by omega) (by omega) (by omega) (by omega) (by omega) (by omega) (by omega) (by omega) (by omega) (by omega) (by omega) (by omega)
   refine ⟨d0,d1,d2,d3,hc.2.2.2.1.symm,hc.2.2.2.2.symm,mJ hr ?_ ?_ ?_ ?_⟩
   ·rw [q5,d9,Int.add_comm,s2,(z1 (p:=imm / 1048576 % 2) 2048 (by omega) (Int.add_assoc _ _ _) (by omega) (by omega)).1]; omega
   ·rw [q6,d9,Int.add_comm,s2,(z1 (p:=imm / 1048576 % 2 * 1024+imm / 2 % 1024) (q:=imm / 2048 % 2) 2 (by omega) (by omega) (by omega) (by omega)).1,(z1 (p:=imm / 1048576 % 2) (q:=imm / 2 % 1024) 1024 (by omega) rfl (by omega) (by omega)).2]
   ·rw [d9]; clear h d9 d10 d8 d7 d6 d5 d4 d3 d2; omega
   ·rw [d10]; clear h d9 d10 d8 d7 d6 d5 d4 d3 d2; omega
  ·obtain ⟨rfl,rfl,rfl,rfl⟩:=s6
   have hi0:imm=0:=by omega
   obtain ⟨b,hn⟩:=hnm
   cases b
   ·have hw:w=115:=by simp [hn] at h; omega
    subst hw
    exact ⟨by omega,by omega,.inl ⟨rfl,hn⟩,by omega,by omega,by omega,by rw [hi0]; simp [number]⟩
   ·have hw:w=1048691:=by simp [hn] at h; omega
    subst hw
    exact ⟨by omega,by omega,.inr ⟨rfl,hn⟩,by omega,by omega,by omega,by rw [hi0]; simp [number]⟩
 refine ⟨key.1,key.2.1,?_⟩
 rw [Qqa key.1 key.2.1 QnV QD0 hk key.2.2.1,zA,key.2.2.2]
theorem QTo (w m:Int) (h0:0≤w) (h1:w<4294967296) (g0:0≤m) (g1:m<4294967296):IntKind.u32.wrap (BitVec.ofInt 32 w &&& BitVec.ofInt 32 m).toNat=((w.toNat &&& m.toNat:Nat):Int):=by
 obtain ⟨x,rfl⟩:=Int.eq_ofNat_of_zero_le h0
 obtain ⟨y,rfl⟩:=Int.eq_ofNat_of_zero_le g0
 have e:∀ z:Nat,z<4294967296→(BitVec.ofInt 32 (z:Int)).toNat=z:=fun z hz=>by
  rw [BitVec.toNat_ofInt]
  have:((z:Int) % ((2 ^ 32:Nat):Int))=z:=Int.emod_eq_of_lt (by omega) (by omega)
  rw [this]; simp
 rw [BitVec.toNat_and,e x (by omega),e y (by omega)]
 simp only [Int.toNat_natCast]
 have:x &&& y≤x:=Nat.and_le_left
 apply Qas
 ·simp [IntKind.min,IntKind.signed]
 ·simp [IntKind.max,IntKind.signed,IntKind.bits]; omega
theorem QiO (k x:Nat) (h:x<2 ^ k):x &&& (2 ^ k - 1)=x:=by rw [Nat.and_two_pow_sub_one_eq_mod,Nat.mod_eq_of_lt h]
theorem QiN (w c d:Nat) (hw:w<4294967296) (h7:(d=127∨d=126∨d=0)) (h3:c=7∨c=0) :
 w &&& (127+2 ^ 7 * (0+2 ^ 5 * (c+2 ^ 3 * (0+2 ^ 10 * d))))=w % 128+(if c=7 then w / 4096 % 8 else 0) * 4096+(if d=127 then w / 33554432 else if d=126 then w / 67108864 * 2 else 0) * 33554432:=by
 have hw2:w=w % 128+2 ^ 7 * (w / 128 % 32+2 ^ 5 * (w / 4096 % 8+2 ^ 3 * (w / 32768 % 1024+2 ^ 10 * (w / 33554432)))):=by omega
 have hd:(w / 33554432) &&& d=(if d=127 then w / 33554432 else if d=126 then w / 67108864 * 2 else 0):=by
  rcases h7 with rfl | rfl | rfl
  ·have:=QiO 7 (w / 33554432) (by omega); simpa using this
  ·have e1:=Qcq 1 (w / 33554432 % 2) (w / 67108864) 0 63 (by omega) (by omega)
   have e2:w / 33554432 % 2+2 ^ 1 * (w / 67108864)=w / 33554432:=by omega
   have e3:=QiO 6 (w / 67108864) (by omega)
   rw [e2] at e1
   simp at e1 e3 ⊢
   rw [e1,e3]; omega
  ·simp
 have hc:(w / 4096 % 8) &&& c=if c=7 then w / 4096 % 8 else 0:=by
  rcases h3 with rfl | rfl
  ·have:=QiO 3 (w / 4096 % 8) (by omega); simpa using this
  ·simp
 conv=>lhs; rw [hw2]
 rw [Qcq 7 _ _ _ _ (by omega) (by omega),Qcq 5 _ _ _ _ (by omega) (by omega),Qcq 3 _ _ _ _ (by omega) (by omega),Qcq 10 _ _ _ _ (by omega) (by omega),hd,hc]
 have:=QiO 7 (w % 128) (by omega)
 simp at this ⊢
 rw [this]
 omega
def Qb8 (f:Int):Int:=if f=82∨f=87 then 4261441663 else if f=72 then 4227887231 else if f=85∨f=74 then 127 else if f=69 then 4294967295 else 28799
variable {r:RR}
theorem QSb {w:Int} (hg:QxD r=true) (h0:0≤w) (h1:w<4294967296):(IntKind.u32.wrap (BitVec.ofInt 32 w &&& BitVec.ofInt 32 (Qb8 r.form)).toNat=Yy r)↔is w r=true:=by
 rw [QTo w _ h0 h1 (by unfold Qb8; repeat' split <;> omega) (by unfold Qb8; repeat' split <;> omega)]
 obtain ⟨x,rfl⟩:=Int.eq_ofNat_of_zero_le h0
 have hx:x<4294967296:=by omega
 simp only [Int.toNat_natCast]
 simp only [QxD,Bool.and_eq_true,Bool.or_eq_true,decide_eq_true_eq,or_assoc] at hg
 obtain ⟨⟨c0,c1,a0,a1,b0,b1⟩,hf⟩:=hg
 have eR:=QiN x 7 127 hx (by simp) (by simp)
 have eH:=QiN x 7 126 hx (by simp) (by simp)
 have eI:=QiN x 7 0 hx (by simp) (by simp)
 have eU:=QiN x 0 0 hx (by simp) (by simp)
 have eE:=QiO 32 x (by omega)
 simp only [Nat.reducePow,Nat.reduceMul,rA,Nat.reduceSub,if_true,rq,if_false,reduceCtorEq] at eR eH eI eU eE
 simp only [Qpg,QaK] at hf
 rcases hf with hf | hf | hf | hf | hf | hf | hf | hf | hf <;>
  simp only [hf,Qb8,Yy,is,fld,Int.reduceEq,if_true,if_false,or_true,or_false,Int.reducePow,Int.reduceToNat,eR,eH,eI,eU,eE,decide_eq_true_eq,Int.ediv_one] <;> clear eR eH eI eU eE
 all_goals (try omega)
 obtain ⟨_,_,_,_,hn | hn⟩:=hf <;> simp [hn] <;> omega
def parts (fmt:Int→List UInt8) (f:Int) (x:In):List (List UInt8) :=
 (if Zt f then [120::fmt x.rd] else [])++(if Qao f then [120::fmt x.rs1] else [])++(if QaO f then [120::fmt x.rs2] else [])++(if f=82∨f=69 then [] else [fmt x.imm])
def bitsOf (f:Int):List (Nat × Nat) :=
 if f=73 then [(20,12)] else if f=72 then [(20,6)] else if f=87 then [(20,5)] else if f=83 then [(25,7),(7,5)] else if f=66 then [(31,1),(7,1),(25,6),(8,4)]
 else if f=85 then [(12,20)] else if f=74 then [(31,1),(12,8),(20,1),(21,10)] else []
def Qd6 (f:Int):Nat:=if f=66∨f=74 then 1 else if f=85 then 12 else 0
def Qnl (f:Int):Bool:=f=73∨f=83∨f=66∨f=85∨f=74
def QA (l:List (Nat × Nat)) (z:Nat):Nat:=l.foldl (fun n b=>n+b.2) z
def Qpq (w:Int) (l:List (Nat × Nat)) (z:Int):Int:=l.foldl (fun n b=>n * 2 ^ b.2+fld w b.1 b.2) z
def QD6 (l:List (Nat × Nat)) (n:Int):Int × Int:=l.foldr (fun b p=>(p.1+p.2 % 2 ^ b.2 * 2 ^ b.1,p.2 / 2 ^ b.2)) (0,n)
def numP (f w:Int):Int :=
 let n:=Qpq w (bitsOf f) 0 * 2 ^ Qd6 f
 if Qnl f then sgn n (QA (bitsOf f) (Qd6 f)) else n
def QSv (f n:Int):Bool :=
 let over:=(2:Int) ^ QA (bitsOf f) (Qd6 f)
 if Qnl f then decide (n≥(0 - over).tdiv 2∧n<over.tdiv 2∧n % 2 ^ Qd6 f=0) else decide (n≥0∧n<over∧n % 2 ^ Qd6 f=0)
def QpC (f n:Int):Int:=(QD6 (bitsOf f) (n / 2 ^ Qd6 f)).1
theorem forms (hg:QxD r=true):r.form=82∨r.form=87∨r.form=73∨r.form=72∨r.form=83∨r.form=66∨r.form=85∨r.form=74∨r.form=69:=by
 simp only [QxD,Bool.and_eq_true,Bool.or_eq_true,decide_eq_true_eq,or_assoc] at hg
 rcases hg.2 with h | h | h | h | h | h | h | h | h <;> simp [h]
variable {f:Int}
theorem QR0 (w:Int) (h:f=82∨f=87∨f=73∨f=72∨f=83∨f=66∨f=85∨f=74∨f=69):numP f w=number w f:=by
 rcases h with rfl | rfl | rfl | rfl | rfl | rfl | rfl | rfl | rfl <;>
  simp only [numP,number,bitsOf,Qd6,Qnl,Qpq,QA,List.foldl_cons,List.foldl_nil,Int.reduceEq,if_true,if_false,or_true,or_false,decide_true,decide_false,Bool.false_eq_true,zA,rA,Int.zero_mul,Int.zero_add,Int.reducePow,Int.mul_one] <;> (try rfl)
 ·congr 1; omega
 ·congr 1; omega
theorem Qxm (n:Int) (h:f=82∨f=87∨f=73∨f=72∨f=83∨f=66∨f=85∨f=74∨f=69) (hr:room f n=true):QpC f n=spread f n:=by
 rcases h with rfl | rfl | rfl | rfl | rfl | rfl | rfl | rfl | rfl <;>
  simp only [QpC,QD6,spread,room,bitsOf,Qd6,List.foldr_cons,List.foldr_nil,Int.reduceEq,if_true,if_false,or_true,or_false,Int.reducePow,Int.zero_add,Int.ediv_one,decide_eq_true_eq] at hr ⊢ <;> (try omega)
theorem QFA (n:Int) (h:f=82∨f=87∨f=73∨f=72∨f=83∨f=66∨f=85∨f=74∨f=69):QSv f n=room f n:=by
 rcases h with rfl | rfl | rfl | rfl | rfl | rfl | rfl | rfl | rfl <;>
  simp [QSv,room,bitsOf,Qd6,Qnl,QA] <;> (try (rw [Bool.eq_iff_iff]; simp only [Bool.and_eq_true,decide_eq_true_eq]; omega))
 all_goals omega
theorem Qhj (x y:Nat) (hx:x<4294967296) (hy:y<4294967296):IntKind.u32.wrap (BitVec.ofInt 32 (x:Int) ||| BitVec.ofInt 32 (y:Int)).toNat=((x ||| y:Nat):Int):=by
 have e:∀ z:Nat,z<4294967296→(BitVec.ofInt 32 (z:Int)).toNat=z:=fun z hz=>by
  rw [BitVec.toNat_ofInt]
  have:((z:Int) % ((2 ^ 32:Nat):Int))=z:=Int.emod_eq_of_lt (by omega) (by omega)
  rw [this]; simp
 rw [BitVec.toNat_or,e x hx,e y hy]
 have:x ||| y<2 ^ 32:=Nat.or_lt_two_pow (by omega) (by omega)
 apply Qas
 ·simp [IntKind.min,IntKind.signed]
 ·simp [IntKind.max,IntKind.signed,IntKind.bits]; omega
def dig (a0 a1 a2 a3 a4 a5:Nat):Nat:=a0+2 ^ 7 * (a1+2 ^ 5 * (a2+2 ^ 3 * (a3+2 ^ 5 * (a4+2 ^ 5 * a5))))
variable {a0 a1 a2 a3 a4 a5 d:Nat}
theorem QsM {b0 b1 b2 b3 b4 b5:Nat} (h0:a0<128) (h1:a1<32) (h2:a2<8) (h3:a3<32) (h4:a4<32) (g0:b0<128) (g1:b1<32) (g2:b2<8) (g3:b3<32) (g4:b4<32) :
 dig a0 a1 a2 a3 a4 a5 ||| dig b0 b1 b2 b3 b4 b5=dig (a0 ||| b0) (a1 ||| b1) (a2 ||| b2) (a3 ||| b3) (a4 ||| b4) (a5 ||| b5):=by
 unfold dig
 rw [QcQ 7 _ _ _ _ (by omega) (by omega),QcQ 5 _ _ _ _ (by omega) (by omega),QcQ 3 _ _ _ _ (by omega) (by omega),QcQ 5 _ _ _ _ (by omega) (by omega),QcQ 5 _ _ _ _ (by omega) (by omega)]
theorem Qht (h0:a0<128) (h1:a1<32) (h2:a2<8) (h3:a3<32) (h4:a4<32) (h5:a5<128):dig a0 a1 a2 a3 a4 a5<4294967296:=by unfold dig; omega
theorem QRK {f:Nat} (hf:f % 2=0) (hd:d<2):f ||| d=f+d:=by
 have:=QcQ 1 0 (f / 2) d 0 (by omega) (by omega)
 have e:0+2 ^ 1 * (f / 2)=f:=by omega
 rw [e] at this
 simp at this
 rw [this]; omega
def orP (l:List Int):Int:=l.foldl (fun n x=>IntKind.u32.wrap (BitVec.ofInt 32 n ||| BitVec.ofInt 32 x).toNat) 0
theorem QRN {c f3 f7 rd r1 r2 a b c':Nat} (h0:c<128) (h1:f3<8) (h2:f7<128) (h3:rd<32) (h4:r1<32) (h5:r2<32) (ha:a<32) (hb:b<256) (hc:c'<32) (hd:d<128)
 (k1:rd=0∨a=0) (k2:f3=0∨b=0) (k3:r1=0∨b=0) (k4:r2=0∨c'=0) (k5:f7=0∨d=0∨(f7 % 2=0∧d<2)) :
 orP [((dig c 0 f3 0 0 f7:Nat):Int),((dig 0 rd 0 0 0 0:Nat):Int),((dig 0 0 0 r1 0 0:Nat):Int),((dig 0 0 0 0 r2 0:Nat):Int),((dig 0 a (b % 8) (b / 8) c' d:Nat):Int)] =
  ((dig c 0 f3 0 0 f7:Nat):Int)+((dig 0 rd 0 0 0 0:Nat):Int)+((dig 0 0 0 r1 0 0:Nat):Int)+((dig 0 0 0 0 r2 0:Nat):Int)+((dig 0 a (b % 8) (b / 8) c' d:Nat):Int):=by
 simp only [orP,List.foldl_cons,List.foldl_nil]
 have z:(0:Int)=((dig 0 0 0 0 0 0:Nat):Int):=by simp [dig]
 rw [z,Qhj _ _ (Qht (by omega) (by omega) (by omega) (by omega) (by omega) (by omega)) (Qht (by omega) (by omega) (by omega) (by omega) (by omega) (by omega)),QsM (by omega) (by omega) (by omega) (by omega) (by omega) (by omega) (by omega) (by omega) (by omega) (by omega)]
 simp only [Nat.zero_or,Nat.or_zero]
 rw [Qhj _ _ (Qht (by omega) (by omega) (by omega) (by omega) (by omega) (by omega)) (Qht (by omega) (by omega) (by omega) (by omega) (by omega) (by omega)),QsM (by omega) (by omega) (by omega) (by omega) (by omega) (by omega) (by omega) (by omega) (by omega) (by omega)]
 simp only [Nat.zero_or,Nat.or_zero]
 rw [Qhj _ _ (Qht (by omega) (by omega) (by omega) (by omega) (by omega) (by omega)) (Qht (by omega) (by omega) (by omega) (by omega) (by omega) (by omega)),QsM (by omega) (by omega) (by omega) (by omega) (by omega) (by omega) (by omega) (by omega) (by omega) (by omega)]
 simp only [Nat.zero_or,Nat.or_zero]
 rw [Qhj _ _ (Qht (by omega) (by omega) (by omega) (by omega) (by omega) (by omega)) (Qht (by omega) (by omega) (by omega) (by omega) (by omega) (by omega)),QsM (by omega) (by omega) (by omega) (by omega) (by omega) (by omega) (by omega) (by omega) (by omega) (by omega)]
 simp only [Nat.zero_or,Nat.or_zero]
 rw [Qhj _ _ (Qht (by omega) (by omega) (by omega) (by omega) (by omega) (by omega)) (Qht (by omega) (by omega) (by omega) (by omega) (by omega) (by omega)),QsM (by omega) (by omega) (by omega) (by omega) (by omega) (by omega) (by omega) (by omega) (by omega) (by omega)]
 have e1:rd ||| a=rd+a:=by rcases k1 with h | h <;> subst h <;> simp
 have e2:f3 ||| b % 8=f3+b % 8:=by rcases k2 with h | h <;> subst h <;> simp
 have e3:r1 ||| b / 8=r1+b / 8:=by rcases k3 with h | h <;> subst h <;> simp
 have e4:r2 ||| c'=r2+c':=by rcases k4 with h | h <;> subst h <;> simp
 have e5:f7 ||| d=f7+d:=by
  rcases k5 with h | h | h
  ·subst h; simp
  ·subst h; simp
  ·exact QRK h.1 h.2
 rw [e1,e2,e3,e4,e5,Nat.or_zero]
 unfold dig
 omega
theorem QES {m:Int} (h0:0≤m) (h1:m<4294967296):orP [m,0,0,0,0]=m:=by
 obtain ⟨x,rfl⟩:=Int.eq_ofNat_of_zero_le h0
 have z:(0:Int)=((0:Nat):Int):=rfl
 simp only [orP,List.foldl_cons,List.foldl_nil]
 rw [z,Qhj 0 x (by omega) (by omega),Nat.zero_or,Qhj x 0 (by omega) (by omega),Nat.or_zero,Qhj x 0 (by omega) (by omega),Nat.or_zero,Qhj x 0 (by omega) (by omega),Nat.or_zero,Qhj x 0 (by omega) (by omega),Nat.or_zero]
theorem QRM (hk:T[(x.op - 1).toNat]?=some r) (hd:0≤x.rd∧x.rd≤31) (h1:0≤x.rs1∧x.rs1≤31) (h2:0≤x.rs2∧x.rs2≤31) (z1:Zt r.form=false→x.rd=0) (z2:Qao r.form=false→x.rs1=0)
 (z3:QaO r.form=false→x.rs2=0) (hr:room r.form x.imm=true) :
 orP [Yy r,x.rd * 128,x.rs1 * 32768,x.rs2 * 1048576,spread r.form x.imm]=Yy r+x.rd * 128+x.rs1 * 32768+x.rs2 * 1048576+spread r.form x.imm:=by
 have hg0:=QnV r (List.mem_of_getElem? hk)
 have hg:=hg0
 simp only [QxD,Bool.and_eq_true,Bool.or_eq_true,decide_eq_true_eq,or_assoc] at hg
 obtain ⟨⟨c0,c1,a0,a1,b0,b1⟩,hf⟩:=hg
 simp only [Qpg,QaK] at hf
 obtain ⟨a,b,c,d,ha0,ha1,hb0,hb1,hc0,hc1,hd0,hd1,hs,s1,s2,s3,s4,s5,s6⟩:=Qrv r.form x.imm (by rcases hf with hf | hf | hf | hf | hf | hf | hf | hf | hf <;> simp [hf])
 by_cases hE:r.form=69
 ·rw [hE] at z1 z2 z3
  rw [hs]
  obtain ⟨rfl,rfl,rfl,rfl⟩:=s6 (.inr hE)
  rw [z1 rfl,z2 rfl,z3 rfl]
  have hm:0≤Yy r∧Yy r<4294967296:=by unfold Yy; split <;> omega
  simp only [Int.zero_mul,Int.add_zero]
  exact QES hm.1 hm.2
 ·have hm:Yy r=r.code+r.f3 * 4096+r.f7 * 33554432:=by
   unfold Yy
   rw [if_neg]
   rcases hf with hf | hf | hf | hf | hf | hf | hf | hf | hf <;> first | (exact hf.2) | (exact hf.2.2) | (exact hf.2.2.2) | (exact absurd hf.1 hE)
  have key:=QRN (c:=r.code.toNat) (f3:=r.f3.toNat) (f7:=r.f7.toNat) (rd:=x.rd.toNat) (r1:=x.rs1.toNat) (r2:=x.rs2.toNat) (a:=a.toNat) (b:=b.toNat) (c':=c.toNat) (d:=d.toNat)
   (by omega) (by omega) (by omega) (by omega) (by omega) (by omega) (by omega) (by omega) (by omega) (by omega)
  have q1:((dig r.code.toNat 0 r.f3.toNat 0 0 r.f7.toNat:Nat):Int)=Yy r:=by rw [hm]; unfold dig; omega
  have q2:((dig 0 x.rd.toNat 0 0 0 0:Nat):Int)=x.rd * 128:=by unfold dig; omega
  have q3:((dig 0 0 0 x.rs1.toNat 0 0:Nat):Int)=x.rs1 * 32768:=by unfold dig; omega
  have q4:((dig 0 0 0 0 x.rs2.toNat 0:Nat):Int)=x.rs2 * 1048576:=by unfold dig; omega
  have q5:((dig 0 a.toNat (b.toNat % 8) (b.toNat / 8) c.toNat d.toNat:Nat):Int)=spread r.form x.imm:=by rw [hs]; unfold dig; omega
  rw [q1,q2,q3,q4,q5] at key
  clear q1 q2 q3 q4 q5 hm hs
  apply key
  all_goals (rcases hf with ⟨hf,hh⟩ | ⟨hf,hh⟩ | ⟨hf,hh⟩ | ⟨hf,hh⟩ | ⟨hf,hh⟩ | ⟨hf,hh⟩ | ⟨hf,hh⟩ | ⟨hf,hh⟩ | ⟨hf,hh⟩)
  all_goals (rw [hf] at hr z1 z2 z3 s1 s2 s3 s4 s5 s6; simp only [Zt,Qao,QaO,room,Int.reduceEq,or_true,or_false,if_true,if_false,decide_true,decide_false,Bool.true_eq_false,false_implies,decide_eq_true_eq,forall_const] at hr z1 z2 z3 s1 s2 s3 s4 s5 s6)
  all_goals (first | omega | (exact absurd hf hE))
end Go.Rv
namespace Go.Proofs.YtbdhjeojcpgblaaGreatDoor
open Go Go.Am Go.Rv
set_option maxRecDepth 100000
variable {P:Program}
def pr (a b:Int):V:=.agg [.int .i64 a,.int .i64 b]
def G0:Nat→Option V:=fun g=>match g with
 | 0=>some (pr 7 5) | 1=>some (pr 15 5) | 2=>some (pr 20 5) | 3=>some (pr 12 3) | 4=>some (pr 25 7)
 | 6=>some (QoH .u64 Lib.pow10Tab) | 5=>some (QoH .u8 [0,1,56,2,57,49,28,3,61,58,42,50,38,29,17,4,62,47,59,36,45,43,51,22,53,39,33,30,24,18,12,5,63,55,48,27,60,41,37,16,46,35,44,21,52,32,23,11,54,26,40,15,34,20,31,10,25,14,19,9,13,8,7,6])
 | _=>none
def Qyj (l:List (Nat × Nat)):V:=match l with
 | []=>.lst 0 [] true
 | b::l=>.lst 2 ((b::l).map fun b=>pr b.1 b.2) true
def Qno (f:Int):List V:=[.bool (Zt f),.bool (Qao f),.bool (QaO f),Qyj (bitsOf f),.int .i64 (Qd6 f),.bool (Qnl f),.int .u32 (Qb8 f)]
def Qoa (r:RR):List V:=Qno r.form++[.str r.name,.int .u32 (Yy r)]
def zeroC:List V:=[.bool false,.bool false,.bool false,.lst 0 [] true,.int .i64 0,.bool false,.int .u32 0,.str [],.int .u32 0]
def tabC:List V:=zeroC++(T.map Qoa).flatten
theorem QDt (hT:Qf P tab):Pure P G0 QoW [] fun v=>v=.agg tabC :=
 run_pure hT 200 80 (.agg tabC) (fun v=>veq v (.agg tabC)) (QBo _) rfl (by kernel_rfl)
end Go.Proofs.YtbdhjeojcpgblaaGreatDoor
namespace Go.Proofs.YtbdhjeojcpgblaaGreatDoor
open Go Go.Am
set_option maxRecDepth 100000
variable {P:Program} {G:Nat→Option V}
section
attribute [local go_sem] nF aZ lR Nat.mul_one zA zL beq_self_eq_true ge_iff_le Qu Qav zqn_0 zqn_1 ZP QLK QLJ Qz2 Qz1 Qz0 QLI QLH QLG QLF QLE QLD QLC QLB QfF QIM QIL QzH QIK QIJ QII QIH QIG QIF QIE QID QdS QLq QLp QLo QLn QLm QLl QLk QfE QIC QIB QdR QLA QLz QLy QLx QLw QLv QLu QLt QLs QLr
structure Nd where
 kind:Int
 n:Int
 a:Int
 op:Int
 x:Int
 y:Int
 deriving DecidableEq
def Nd.cells (d:Nd):List V:=[.int .u8 d.kind,.int .i64 d.n,.int .i64 d.a,.int .u8 d.op,.int .i64 d.x,.int .i64 d.y]
theorem c_bare (hT:Qf P tab) (d:Nd):Pure P G QmX [.agg d.cells] fun v=>v=.agg (Nd.cells ⟨0,if d.kind=1∨d.kind=2∨d.kind=3 then 0 else d.n,if d.kind=3 then 0 else d.a,if d.kind=4 then 0 else d.op,if d.kind=4 then 0 else d.x,if d.kind=3∨d.kind=4 then 0 else d.y⟩):=by
 intro t
 refine Qk hT Qmz (by simp [QfF]) (Qg 1000 ?_)
 simp -implicitDefEqProofs (disch:=omega) only [go_sem,↓reduceIte,reduceCtorEq,rA,rq,rL,Nd.cells]
 grind
def Nd.parts (d:Nd):List Int:=if d.kind=3 then [d.y] else if d.kind=4 then [d.x,d.y] else []
theorem QDv (hT:Qf P tab) (d:Nd):Pure P G QkM [.agg d.cells] fun v=>∃ z,v=.lst z (d.parts.map (V.int .i64)) true∧(z=1∨d.parts=[]):=by
 intro t
 refine Qk hT QfH (by simp [QdS]) (Qg 1000 ?_)
 simp -implicitDefEqProofs (disch:=omega) only [go_sem,↓reduceIte,reduceCtorEq,rA,rq,rL,Nd.cells,Nd.parts]
 by_cases h3:d.kind=3 <;> by_cases h4:d.kind=4 <;> simp [h3,h4]
def signs:List (List UInt8):=[[],[43],[45],[42],[47],[37],[47,117],[37,117],[38],[124],[94],[60,60],[62,62,117],[62,62],[60],[60,117],[61,61]]
theorem c_sign (hT:Qf P tab) (o:Int) (h0:0≤o) (h1:o≤16):Pure P G QmW [.int .u8 o] fun v=>v=.str (signs.getD o.toNat []):=by
 intro t
 refine Qk hT Qmy (by simp [QfE]) (Qg 1000 ?_)
 refine ya ?_
 have:o=0∨o=1∨o=2∨o=3∨o=4∨o=5∨o=6∨o=7∨o=8∨o=9∨o=10∨o=11∨o=12∨o=13∨o=14∨o=15∨o=16:=by omega
 rcases this with h | h | h | h | h | h | h | h | h | h | h | h | h | h | h | h | h <;> subst h <;> exact ⟨rfl,rfl⟩
def gS (v0 v1 v2 v3 v4 len:Nat):Option Ob:=some (.arr v0 81 [.sl 2 v2 0 6 len none,.mp 1 v1,.sl 3 v3 0 1 len none,.sl 4 v4 0 1 len none])
variable {base v0 v1 v2 v3 v4 t:Nat}
theorem c_is (hT:Qf P tab) {o:List (Option Ob)} {len:Nat} {id:Int} :
 C P G base Qf7 [.ptr 0 v0 0,.int .i64 id] ⟨t,gS v0 v1 v2 v3 v4 len::o⟩ fun v σ=>v=.bool (decide (0≤id∧id<len))∧σ=⟨t,gS v0 v1 v2 v3 v4 len::o⟩:=by
 refine Qk hT Ze (by simp [Qav]) (Qg 1000 ?_)
 simp -implicitDefEqProofs (disch:=omega) only [go_sem,↓reduceIte,reduceCtorEq,rA,rq,rL,gS]
 by_cases h1:0≤id <;> simp [h1]
def Nd.may (d:Nd) (len:Nat):Bool :=
 decide ((if d.kind=1∨d.kind=2∨d.kind=3 then 0 else d.n)=0∧(if d.kind=3 then 0 else d.a)=0∧(if d.kind=4 then 0 else d.op)=0∧(if d.kind=4 then 0 else d.x)=0∧(if d.kind=3∨d.kind=4 then 0 else d.y)=0) &&
 (if d.kind=1 then true else if d.kind=2 then decide (0≤d.n) else if d.kind=3 then decide (0≤d.n∧0≤d.a∧0≤d.y∧d.y<len) else if d.kind=4 then decide (1≤d.op∧d.op≤16∧0≤d.x∧d.x<len∧0≤d.y∧d.y<len) else false)
theorem c_may (hT:Qf P tab) {o1 o2 o3 o4:Option Ob} {len:Nat} (d:Nd) (hb:base≤5) :
 C P G base QeY [.ptr 0 v0 0,.agg d.cells] ⟨t,[gS v0 v1 v2 v3 v4 len,o1,o2,o3,o4]⟩ fun v σ=>v=.bool (d.may len)∧∃ t',t≤t'∧σ=⟨t',[gS v0 v1 v2 v3 v4 len,o1,o2,o3,o4]⟩:=by
 refine Qi 5 hb (Qk hT QeT (by simp [ZP]) (Qg 1000 ?_))
 simp -implicitDefEqProofs (disch:=omega) only [go_sem,↓reduceIte,reduceCtorEq,rA,rq,Nd.cells,gS]
 refine Qbe hT Qmz (c_bare hT d) (by simp [Qd,Qb]) 1000 fun v hv=>?_
 subst hv
 simp -implicitDefEqProofs (disch:=omega) only [go_sem,↓reduceIte,reduceCtorEq,rA,rq,rL,Nd.cells]
 repeat' (first | with_reducible refine And.intro ?_ ?_ | with_reducible intro _)
 any_goals (first | (refine ⟨_,?_,rfl,rfl⟩; omega) | (refine ⟨_,?_,rfl⟩; omega))
 any_goals (refine call hT Ze (c_is hT) 1000 fun v σ hv=>?_; obtain ⟨rfl,rfl⟩:=hv; simp -implicitDefEqProofs (disch:=omega) only [go_sem,↓reduceIte,reduceCtorEq,rA,rq,rL,gS]; repeat' (first | with_reducible refine And.intro ?_ ?_ | with_reducible intro _))
 any_goals (first | (refine ⟨_,?_,rfl,rfl⟩; omega) | (refine ⟨_,?_,rfl⟩; omega))
 any_goals (refine call hT Ze (c_is hT) 1000 fun v σ hv=>?_; obtain ⟨rfl,rfl⟩:=hv; simp -implicitDefEqProofs (disch:=omega) only [go_sem,↓reduceIte,reduceCtorEq,rA,rq,rL,gS]; repeat' (first | with_reducible refine And.intro ?_ ?_ | with_reducible intro _))
 any_goals (first | (refine ⟨_,?_,rfl,rfl⟩; omega) | (refine ⟨_,?_,rfl⟩; omega))
 all_goals (simp only [V.bool.injEq,Nd.may]; grind)
structure Fmt (P:Program) (G:Nat→Option V) where
 fmt:Int→List UInt8
 le:∀ i,(fmt i).length≤24
 int:∀ i:Int,-9223372036854775808≤i→i≤9223372036854775807→Pure P G QcI [.int .i64 i,.int .i64 10] fun v=>v=.str (fmt i)
 itoa:∀ i:Int,-9223372036854775808≤i→i≤9223372036854775807→Pure P G Qhk [.int .i64 i] fun v=>v=.str (fmt i)
def i64 (i:Int):Prop:=-9223372036854775808≤i∧i≤9223372036854775807
def Nd.words (fmt:Int→List UInt8) (d:Nd) (x y:List UInt8):List UInt8 :=
 if d.kind=1 then fmt d.n else if d.kind=2 then [115]++fmt d.n else if d.kind=3 then [97]++fmt d.a++[118]++fmt d.n++[91]++y++[93] else [40]++x++[32]++signs.getD d.op.toNat []++[32]++y++[41]
theorem QS1 (hT:Qf P tab) (F:Fmt P G) (d:Nd) (x y:List UInt8) (hn:i64 d.n) (ha:i64 d.a) (ho:0≤d.op∧d.op≤16) (hx:x.length≤1000000) (hy:y.length≤1000000) :
 Pure P G QkL [.agg d.cells,.str x,.str y] fun v=>v=.str (d.words F.fmt x y):=by
 intro t
 have l1:=F.le d.n
 have l2:=F.le d.a
 have l3:(signs.getD d.op.toNat []).length≤3:=by
  have:d.op=0∨d.op=1∨d.op=2∨d.op=3∨d.op=4∨d.op=5∨d.op=6∨d.op=7∨d.op=8∨d.op=9∨d.op=10∨d.op=11∨d.op=12∨d.op=13∨d.op=14∨d.op=15∨d.op=16:=by omega
  rcases this with h | h | h | h | h | h | h | h | h | h | h | h | h | h | h | h | h <;> rw [h] <;> decide
 refine Qk hT QkC (by simp [QdR]) (Qg 1000 ?_)
 simp -implicitDefEqProofs (disch:=omega) only [go_sem,↓reduceIte,reduceCtorEq,rA,rq,rL,Nd.cells]
 refine Qbe hT Qhw (F.int d.n hn.1 hn.2) (by simp [Qd,Qb]) 1000 fun v hv=>?_
 subst hv
 refine ya ?_
 repeat' (first | with_reducible refine And.intro ?_ ?_ | with_reducible intro _)
 any_goals (refine Qbe hT Qn7 (F.itoa d.a ha.1 ha.2) (by simp [Qd,Qb]) 1000 fun v hv=>?_; subst hv; simp -implicitDefEqProofs (disch:=omega) only [go_sem,↓reduceIte,reduceCtorEq,rq,rL,lA])
 any_goals (refine Qbe hT Qmy (c_sign hT d.op ho.1 ho.2) (by simp [Qd,Qb]) 1000 fun v hv=>?_; subst hv; simp -implicitDefEqProofs (disch:=omega) only [go_sem,↓reduceIte,reduceCtorEq,rq,rL,lA])
 all_goals (simp [Nd.words, *])
end
end Go.Proofs.YtbdhjeojcpgblaaGreatDoor
