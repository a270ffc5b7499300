/- Instructions: what the document says of words, in numbers. -/
import Derived.Test.YtfgccihafnjalaaGreatDoorAmD
import Derived.Test.YtfgccihafnjalaaGreatDoorTabB
import Derived.KernelRfl
namespace Go.Rv
open Go Go.Am
set_option maxRecDepth 100000
def fld (w:Int) (a m:Nat):Int:=w / 2 ^ a % 2 ^ m
structure In where
 op:Int
 rd:Int
 rs1:Int
 rs2:Int
 imm:Int
 deriving DecidableEq
structure RR where
 form:Int
 name:List UInt8
 code:Int
 f3:Int
 f7:Int
 deriving DecidableEq
def is (w:Int) (r:RR):Bool :=
 if r.form=69 then decide (w=r.code∧r.name=[101,99,97,108,108]∨w=1048691∧r.name=[101,98,114,101,97,107])
 else if r.form=85∨r.form=74 then decide (fld w 0 7=r.code)
 else if r.form=72 then decide (fld w 0 7=r.code∧fld w 12 3=r.f3∧fld w 26 6=r.f7 / 2)
 else if r.form=82∨r.form=87 then decide (fld w 0 7=r.code∧fld w 12 3=r.f3∧fld w 25 7=r.f7)
 else decide (fld w 0 7=r.code∧fld w 12 3=r.f3)
def Zy (f:Int):Bool:=f=82∨f=73∨f=72∨f=87∨f=85∨f=74
def ZW (f:Int):Bool:=f=82∨f=73∨f=72∨f=87∨f=83∨f=66
def QaH (f:Int):Bool:=f=82∨f=83∨f=66
def sgn (n:Int) (b:Nat):Int:=if n≥2 ^ (b - 1) then n - 2 ^ b else n
def number (w f:Int):Int :=
 if f=73 then sgn (fld w 20 12) 12
 else if f=72 then fld w 20 6
 else if f=87 then fld w 20 5
 else if f=83 then sgn (fld w 25 7 * 32+fld w 7 5) 12
 else if f=66 then sgn (fld w 31 1 * 4096+fld w 7 1 * 2048+fld w 25 6 * 32+fld w 8 4 * 2) 13
 else if f=85 then sgn (fld w 12 20 * 4096) 32
 else if f=74 then sgn (fld w 31 1 * 1048576+fld w 12 8 * 4096+fld w 20 1 * 2048+fld w 21 10 * 2) 21
 else 0
def room (f n:Int):Bool :=
 if f=73∨f=83 then decide (-2048≤n∧n≤2047)
 else if f=72 then decide (0≤n∧n≤63)
 else if f=87 then decide (0≤n∧n≤31)
 else if f=66 then decide (-4096≤n∧n≤4094∧n % 2=0)
 else if f=85 then decide (-2147483648≤n∧n<2147483648∧n % 4096=0)
 else if f=74 then decide (-1048576≤n∧n<1048576∧n % 2=0)
 else decide (n=0)
def spread (f n:Int):Int :=
 if f=73∨f=72∨f=87 then n % 4096 * 1048576
 else if f=83 then n / 32 % 128 * 33554432+n % 32 * 128
 else if f=66 then n / 4096 % 2 * 2147483648+n / 32 % 64 * 33554432+n / 2 % 16 * 256+n / 2048 % 2 * 128
 else if f=85 then n / 4096 % 1048576 * 4096
 else if f=74 then n / 1048576 % 2 * 2147483648+n / 2 % 1024 * 2097152+n / 2048 % 2 * 1048576+n / 4096 % 256 * 4096
 else 0
def mk (i:Nat) (r:RR) (w:Int):In :=
 ⟨i+1,if Zy r.form then fld w 7 5 else 0,if ZW r.form then fld w 15 5 else 0,if QaH r.form then fld w 20 5 else 0,number w r.form⟩
def first (w:Int):Nat→List RR→Option In
 | _,[]=>none
 | i,r::l=>if is w r then some (mk i r w) else first w (i+1) l
def Yq (r:RR):Int:=if r.name=[101,98,114,101,97,107] then 1048691 else r.code+r.f3 * 4096+r.f7 * 33554432
def enc (T:List RR) (x:In):Int × Int :=
 if 1≤x.op∧x.op≤T.length then
  match T[(x.op - 1).toNat]? with
  | none=>(0,100)
  | some r =>
    if x.rd > 31∨x.rs1 > 31∨x.rs2 > 31∨(Zy r.form=false∧x.rd≠0)∨(ZW r.form=false∧x.rs1≠0)∨(QaH r.form=false∧x.rs2≠0)∨((r.form=82∨r.form=69)∧x.imm≠0) then (0,100)
    else if room r.form x.imm=false then (0,101)
    else (Yq r+x.rd * 128+x.rs1 * 32768+x.rs2 * 1048576+spread r.form x.imm,0)
 else (0,100)
def T:List RR:=[
 ⟨85,[108,117,105],55,0,0⟩,
 ⟨85,[97,117,105,112,99],23,0,0⟩,
 ⟨74,[106,97,108],111,0,0⟩,
 ⟨73,[106,97,108,114],103,0,0⟩,
 ⟨66,[98,101,113],99,0,0⟩,
 ⟨66,[98,110,101],99,1,0⟩,
 ⟨66,[98,108,116],99,4,0⟩,
 ⟨66,[98,103,101],99,5,0⟩,
 ⟨66,[98,108,116,117],99,6,0⟩,
 ⟨66,[98,103,101,117],99,7,0⟩,
 ⟨73,[108,98],3,0,0⟩,
 ⟨73,[108,104],3,1,0⟩,
 ⟨73,[108,119],3,2,0⟩,
 ⟨73,[108,100],3,3,0⟩,
 ⟨73,[108,98,117],3,4,0⟩,
 ⟨73,[108,104,117],3,5,0⟩,
 ⟨73,[108,119,117],3,6,0⟩,
 ⟨83,[115,98],35,0,0⟩,
 ⟨83,[115,104],35,1,0⟩,
 ⟨83,[115,119],35,2,0⟩,
 ⟨83,[115,100],35,3,0⟩,
 ⟨73,[97,100,100,105],19,0,0⟩,
 ⟨73,[115,108,116,105],19,2,0⟩,
 ⟨73,[115,108,116,105,117],19,3,0⟩,
 ⟨73,[120,111,114,105],19,4,0⟩,
 ⟨73,[111,114,105],19,6,0⟩,
 ⟨73,[97,110,100,105],19,7,0⟩,
 ⟨72,[115,108,108,105],19,1,0⟩,
 ⟨72,[115,114,108,105],19,5,0⟩,
 ⟨72,[115,114,97,105],19,5,32⟩,
 ⟨82,[97,100,100],51,0,0⟩,
 ⟨82,[115,117,98],51,0,32⟩,
 ⟨82,[115,108,108],51,1,0⟩,
 ⟨82,[115,108,116],51,2,0⟩,
 ⟨82,[115,108,116,117],51,3,0⟩,
 ⟨82,[120,111,114],51,4,0⟩,
 ⟨82,[115,114,108],51,5,0⟩,
 ⟨82,[115,114,97],51,5,32⟩,
 ⟨82,[111,114],51,6,0⟩,
 ⟨82,[97,110,100],51,7,0⟩,
 ⟨73,[97,100,100,105,119],27,0,0⟩,
 ⟨87,[115,108,108,105,119],27,1,0⟩,
 ⟨87,[115,114,108,105,119],27,5,0⟩,
 ⟨87,[115,114,97,105,119],27,5,32⟩,
 ⟨82,[97,100,100,119],59,0,0⟩,
 ⟨82,[115,117,98,119],59,0,32⟩,
 ⟨82,[115,108,108,119],59,1,0⟩,
 ⟨82,[115,114,108,119],59,5,0⟩,
 ⟨82,[115,114,97,119],59,5,32⟩,
 ⟨82,[109,117,108],51,0,1⟩,
 ⟨82,[109,117,108,104],51,1,1⟩,
 ⟨82,[109,117,108,104,115,117],51,2,1⟩,
 ⟨82,[109,117,108,104,117],51,3,1⟩,
 ⟨82,[100,105,118],51,4,1⟩,
 ⟨82,[100,105,118,117],51,5,1⟩,
 ⟨82,[114,101,109],51,6,1⟩,
 ⟨82,[114,101,109,117],51,7,1⟩,
 ⟨82,[109,117,108,119],59,0,1⟩,
 ⟨82,[100,105,118,119],59,4,1⟩,
 ⟨82,[100,105,118,117,119],59,5,1⟩,
 ⟨82,[114,101,109,119],59,6,1⟩,
 ⟨82,[114,101,109,117,119],59,7,1⟩,
 ⟨73,[102,101,110,99,101],15,0,0⟩,
 ⟨69,[101,99,97,108,108],115,0,0⟩,
 ⟨69,[101,98,114,101,97,107],115,0,0⟩]
def Qrr:List UInt8:=[101,99,97,108,108]
def Qak:List UInt8:=[101,98,114,101,97,107]
def Qwj (r:RR):Bool :=
 decide (0≤r.code∧r.code<128∧0≤r.f3∧r.f3<8∧0≤r.f7∧r.f7<128) &&
 (decide (r.form=82∧r.name≠Qak) || decide (r.form=87∧r.name≠Qak) || decide (r.form=73∧r.f7=0∧r.name≠Qak) || decide (r.form=72∧r.f7 % 2=0∧r.name≠Qak) || decide (r.form=83∧r.f7=0∧r.name≠Qak) || decide (r.form=66∧r.f7=0∧r.name≠Qak) ||
  decide (r.form=85∧r.f3=0∧r.f7=0∧r.name≠Qak) || decide (r.form=74∧r.f3=0∧r.f7=0∧r.name≠Qak) || decide (r.form=69∧r.code=115∧r.f3=0∧r.f7=0∧(r.name=Qrr∨r.name=Qak)))
theorem Qsi:∀ r∈T,Qwj r=true:=by
 have:T.all Qwj=true:=by decide +kernel
 exact List.all_eq_true.1 this
theorem QtP:T.length=65:=rfl
def apart (r s:RR):Bool :=
 decide (r.code≠s.code) || decide (r.form≠85∧r.form≠74∧r.form≠69∧s.form≠85∧s.form≠74∧s.form≠69∧r.f3≠s.f3) ||
 decide ((r.form=82∨r.form=87∨r.form=72)∧(s.form=82∨s.form=87∨s.form=72)∧r.f7 / 2≠s.f7 / 2) ||
 decide ((r.form=82∨r.form=87)∧(s.form=82∨s.form=87)∧r.f7≠s.f7) || decide (r.form=69∧s.form=69∧r.name≠s.name)
def QuU (r:RR):List RR→Bool
 | []=>true
 | s::l=>apart r s&&QuU r l
def QuV:List RR→Bool
 | []=>true
 | r::l=>QuU r l&&QuV l
theorem QJv:QuV T=true:=by decide +kernel
variable {r:RR}
theorem Quy {w:Int} (hg:Qwj r=true) (h:is w r=true) (h0:0≤w) (h1:w<4294967296):w % 128=r.code∧(r.form≠85→r.form≠74→w / 4096 % 8=r.f3)∧(r.form=82∨r.form=87∨r.form=72→w / 67108864=r.f7 / 2) ∧
 (r.form=82∨r.form=87→w / 33554432=r.f7)∧(r.form=69→(w=115∧r.name=Qrr)∨(w=1048691∧r.name=Qak)):=by
 simp only [Qwj,Bool.and_eq_true,Bool.or_eq_true,decide_eq_true_eq,or_assoc] at hg
 obtain ⟨⟨c0,c1,a0,a1,b0,b1⟩,hf⟩:=hg
 rcases hf with hf | hf | hf | hf | hf | hf | hf | hf | hf <;> simp [is,hf,fld] at h ⊢ <;> (try omega)
 obtain ⟨_,hf1,hf2,hf3,hf4⟩:=hf
 simp only [Qrr,Qak] at *
 rcases h with ⟨h,h'⟩ | ⟨h,h'⟩
 ·refine ⟨by omega,by omega,.inl ⟨h,h'⟩⟩
 ·refine ⟨by omega,by omega,.inr ⟨h,h'⟩⟩
theorem QAC {w:Int} {s:RR} (hr:Qwj r=true) (hs:Qwj s=true) (h0:0≤w) (h1:w<4294967296) (ha:apart r s=true) (h:is w r=true):is w s=false:=by
 cases h':is w s with
 | false=>rfl
 | true =>
   exfalso
   obtain ⟨a1,a2,a3,a4,a5⟩:=Quy hr h h0 h1
   obtain ⟨b1,b2,b3,b4,b5⟩:=Quy hs h' h0 h1
   simp only [apart,Bool.or_eq_true,decide_eq_true_eq,or_assoc] at ha
   rcases ha with ha | ha | ha | ha | ha
   ·exact ha (a1.symm.trans b1)
   ·exact ha.2.2.2.2.2.2 ((a2 ha.1 ha.2.1).symm.trans (b2 ha.2.2.2.1 ha.2.2.2.2.1))
   ·exact ha.2.2 ((a3 ha.1).symm.trans (b3 ha.2.1))
   ·exact ha.2.2 ((a4 ha.1).symm.trans (b4 ha.2.1))
   ·rcases a5 ha.1 with ⟨c,c'⟩ | ⟨c,c'⟩ <;> rcases b5 ha.2.1 with ⟨d,d'⟩ | ⟨d,d'⟩
    ·exact ha.2.2 (c'.trans d'.symm)
    ·omega
    ·omega
    ·exact ha.2.2 (c'.trans d'.symm)
theorem QoN {r:RR}:∀ {l:List RR},QuU r l=true→∀ s∈l,apart r s=true
 | s::l,h,t,ht=>by
   simp only [QuU,Bool.and_eq_true] at h
   simp only [List.mem_cons] at ht
   rcases ht with rfl | ht
   ·exact h.1
   ·exact QoN h.2 t ht
theorem QoF {w:Int}:∀ {l:List RR} {i:Nat},(∀ r∈l,is w r=false)→first w i l=none
 | [],_,_=>rfl
 | r::l,i,h=>by
   simp only [first,h r List.mem_cons_self,Bool.false_eq_true,if_false]
   exact QoF fun s hs=>h s (List.mem_cons_of_mem _ hs)
theorem QuH {w:Int} (h0:0≤w) (h1:w<4294967296):∀ {l:List RR} {i k:Nat} {r:RR},(∀ r∈l,Qwj r=true)→QuV l=true→l[k]?=some r→is w r=true→first w i l=some (mk (i+k) r w)
 | r::l,i,0,s,hg,_,hk,hi=>by
   simp at hk; subst hk
   simp [first,hi]
 | r::l,i,k+1,s,hg,ha,hk,hi=>by
   simp only [List.getElem?_cons_succ] at hk
   simp only [QuV,Bool.and_eq_true] at ha
   have hm:=List.mem_of_getElem? hk
   have hr:is w r=false:=by
    cases h:is w r with
    | false=>rfl
    | true=>rw [QAC (hg r List.mem_cons_self) (hg s (List.mem_cons_of_mem _ hm)) h0 h1 (QoN ha.1 s hm) h] at hi; cases hi
   simp only [first,hr,Bool.false_eq_true,if_false]
   rw [QuH h0 h1 (fun t ht=>hg t (List.mem_cons_of_mem _ ht)) ha.2 hk hi]
   congr 2; omega
section
variable {w:Int} (h0:0≤w) (h1:w<4294967296)
include h0 h1
omit h0 h1 in
theorem nH:room 72 (number w 72)=true∧spread 72 (number w 72)=w / 1048576 % 64 * 1048576:=by
 simp only [number,room,spread,fld,Int.reduceEq,if_true,if_false,or_true,or_false,Int.reducePow,decide_eq_true_eq]
 omega
omit h0 h1 in
theorem nW:room 87 (number w 87)=true∧spread 87 (number w 87)=w / 1048576 % 32 * 1048576:=by
 simp only [number,room,spread,fld,Int.reduceEq,if_true,if_false,or_true,or_false,Int.reducePow,decide_eq_true_eq]
 omega
omit h0 h1 in
theorem nR:room 82 0=true∧spread 82 0=0∧number w 82=0:=by simp [number,room,spread]
omit h0 h1 in
theorem nE:room 69 0=true∧spread 69 0=0∧number w 69=0:=by simp [number,room,spread]
end
section
variable {w n:Int}
end
theorem QxD (f n:Int) (hf:f=73∨f=72∨f=87∨f=83∨f=66∨f=85∨f=74∨f=82∨f=69) :
 ∃ a b c d:Int,0≤a∧a<32∧0≤b∧b<256∧0≤c∧c<32∧0≤d∧d<128∧spread f n=a * 128+b * 4096+c * 1048576+d * 33554432 ∧
   (f=73∨f=72∨f=87→a=0∧b=0∧d * 32+c=n % 4096)∧(f=83→b=0∧c=0∧a=n % 32∧d=n / 32 % 128) ∧
   (f=66→b=0∧c=0∧a=n / 2 % 16 * 2+n / 2048 % 2∧d=n / 4096 % 2 * 64+n / 32 % 64)∧(f=85→a=0∧d * 8192+c * 256+b=n / 4096 % 1048576) ∧
   (f=74→a=0∧b=n / 4096 % 256∧d * 32+c=n / 1048576 % 2 * 2048+n / 2 % 1024 * 2+n / 2048 % 2)∧(f=82∨f=69→a=0∧b=0∧c=0∧d=0):=by
 rcases hf with rfl | rfl | rfl | rfl | rfl | rfl | rfl | rfl | rfl
 ·exact ⟨0,0,n % 32,n / 32 % 128,by omega,by omega,by omega,by omega,by omega,by omega,by omega,by omega,by simp [spread]; omega,by simp; omega,by simp,by simp,by simp,by simp,by simp⟩
 ·exact ⟨0,0,n % 32,n / 32 % 128,by omega,by omega,by omega,by omega,by omega,by omega,by omega,by omega,by simp [spread]; omega,by simp; omega,by simp,by simp,by simp,by simp,by simp⟩
 ·exact ⟨0,0,n % 32,n / 32 % 128,by omega,by omega,by omega,by omega,by omega,by omega,by omega,by omega,by simp [spread]; omega,by simp; omega,by simp,by simp,by simp,by simp,by simp⟩
 ·exact ⟨n % 32,0,0,n / 32 % 128,by omega,by omega,by omega,by omega,by omega,by omega,by omega,by omega,by simp [spread]; omega,by simp,by simp,by simp,by simp,by simp,by simp⟩
 ·exact ⟨n / 2 % 16 * 2+n / 2048 % 2,0,0,n / 4096 % 2 * 64+n / 32 % 64,by omega,by omega,by omega,by omega,by omega,by omega,by omega,by omega,by simp [spread]; omega,by simp,by simp,by simp,by simp,by simp,by simp⟩
 ·exact ⟨0,n / 4096 % 256,n / 1048576 % 32,n / 33554432 % 128,by omega,by omega,by omega,by omega,by omega,by omega,by omega,by omega,by simp [spread]; omega,by simp,by simp,by simp,by simp; omega,by simp,by simp⟩
 ·exact ⟨0,n / 4096 % 256,(n / 2 % 16) * 2+n / 2048 % 2,n / 1048576 % 2 * 64+n / 32 % 64,by omega,by omega,by omega,by omega,by omega,by omega,by omega,by omega,by simp [spread]; omega,by simp,by simp,by simp,by simp,by simp; omega,by simp⟩
 ·exact ⟨0,0,0,0,by omega,by omega,by omega,by omega,by omega,by omega,by omega,by omega,by simp [spread],by simp,by simp,by simp,by simp,by simp,by simp⟩
 ·exact ⟨0,0,0,0,by omega,by omega,by omega,by omega,by omega,by omega,by omega,by omega,by simp [spread],by simp,by simp,by simp,by simp,by simp,by simp⟩
theorem z1 {p q c:Int} (k:Int) (hk:0<k) (h:c=p * k+q) (h1:0≤q) (h2:q<k):c / k=p∧c % k=q:=by
 subst h
 have e:p * k+q=q+k * p:=by rw [Int.mul_comm]; omega
 rw [e,Int.add_mul_ediv_left _ _ (by omega),Int.add_mul_emod_self_left,Int.ediv_eq_zero_of_lt h1 h2,Int.emod_eq_of_lt h1 h2]
 omega
theorem q1 (w:Int):w / 2147483648=w / 33554432 / 64:=by omega
theorem q2 (w:Int):w / 33554432 % 64=w / 33554432 % 128 % 64:=by omega
theorem q3 (w:Int):w / 256 % 16=w / 128 % 32 / 2:=by omega
theorem q4 (w:Int):w / 128 % 2=w / 128 % 32 % 2:=by omega
theorem q5 (w:Int):w / 2147483648=w / 1048576 / 2048:=by omega
theorem q6 (w:Int):w / 2097152=w / 1048576 / 2:=by omega
theorem q7 (w:Int):w / 67108864=w / 33554432 / 2:=by omega
theorem QJk (w m:Int) (h0:0≤w) (h1:w<4294967296) (g0:0≤m) (g1:m<4294967296):IntKind.u32.wrap (BitVec.ofInt 32 w &&& BitVec.ofInt 32 m).toNat=((w.toNat &&& m.toNat:Nat):Int):=by
 obtain ⟨x,rfl⟩:=Int.eq_ofNat_of_zero_le h0
 obtain ⟨y,rfl⟩:=Int.eq_ofNat_of_zero_le g0
 have e:∀ z:Nat,z<4294967296→(BitVec.ofInt 32 (z:Int)).toNat=z:=fun z hz=>by
  rw [BitVec.toNat_ofInt]
  have:((z:Int) % ((2 ^ 32:Nat):Int))=z:=Int.emod_eq_of_lt (by omega) (by omega)
  rw [this]; simp
 rw [BitVec.toNat_and,e x (by omega),e y (by omega)]
 simp only [Int.toNat_natCast]
 have:x &&& y≤x:=Nat.and_le_left
 apply Zl
 ·simp [IntKind.min,IntKind.signed]
 ·simp [IntKind.max,IntKind.signed,IntKind.bits]; omega
theorem Qh1 (k x:Nat) (h:x<2 ^ k):x &&& (2 ^ k - 1)=x:=by rw [Nat.and_two_pow_sub_one_eq_mod,Nat.mod_eq_of_lt h]
theorem Qh0 (w c d:Nat) (hw:w<4294967296) (h7:(d=127∨d=126∨d=0)) (h3:c=7∨c=0) :
 w &&& (127+2 ^ 7 * (0+2 ^ 5 * (c+2 ^ 3 * (0+2 ^ 10 * d))))=w % 128+(if c=7 then w / 4096 % 8 else 0) * 4096+(if d=127 then w / 33554432 else if d=126 then w / 67108864 * 2 else 0) * 33554432:=by
 have hw2:w=w % 128+2 ^ 7 * (w / 128 % 32+2 ^ 5 * (w / 4096 % 8+2 ^ 3 * (w / 32768 % 1024+2 ^ 10 * (w / 33554432)))):=by omega
 have hd:(w / 33554432) &&& d=(if d=127 then w / 33554432 else if d=126 then w / 67108864 * 2 else 0):=by
  rcases h7 with rfl | rfl | rfl
  ·have:=Qh1 7 (w / 33554432) (by omega); simpa using this
  ·have e1:=Qdc 1 (w / 33554432 % 2) (w / 67108864) 0 63 (by omega) (by omega)
   have e2:w / 33554432 % 2+2 ^ 1 * (w / 67108864)=w / 33554432:=by omega
   have e3:=Qh1 6 (w / 67108864) (by omega)
   rw [e2] at e1
   simp at e1 e3 ⊢
   rw [e1,e3]; omega
  ·simp
 have hc:(w / 4096 % 8) &&& c=if c=7 then w / 4096 % 8 else 0:=by
  rcases h3 with rfl | rfl
  ·have:=Qh1 3 (w / 4096 % 8) (by omega); simpa using this
  ·simp
 conv=>lhs; rw [hw2]
 rw [Qdc 7 _ _ _ _ (by omega) (by omega),Qdc 5 _ _ _ _ (by omega) (by omega),Qdc 3 _ _ _ _ (by omega) (by omega),Qdc 10 _ _ _ _ (by omega) (by omega),hd,hc]
 have:=Qh1 7 (w % 128) (by omega)
 simp at this ⊢
 rw [this]
 omega
def QbM (f:Int):Int:=if f=82∨f=87 then 4261441663 else if f=72 then 4227887231 else if f=85∨f=74 then 127 else if f=69 then 4294967295 else 28799
variable {r:RR}
theorem QIq {w:Int} (hg:Qwj r=true) (h0:0≤w) (h1:w<4294967296):(IntKind.u32.wrap (BitVec.ofInt 32 w &&& BitVec.ofInt 32 (QbM r.form)).toNat=Yq r)↔is w r=true:=by
 rw [QJk w _ h0 h1 (by unfold QbM; repeat' split <;> omega) (by unfold QbM; repeat' split <;> omega)]
 obtain ⟨x,rfl⟩:=Int.eq_ofNat_of_zero_le h0
 have hx:x<4294967296:=by omega
 simp only [Int.toNat_natCast]
 simp only [Qwj,Bool.and_eq_true,Bool.or_eq_true,decide_eq_true_eq,or_assoc] at hg
 obtain ⟨⟨c0,c1,a0,a1,b0,b1⟩,hf⟩:=hg
 have eR:=Qh0 x 7 127 hx (by simp) (by simp)
 have eH:=Qh0 x 7 126 hx (by simp) (by simp)
 have eI:=Qh0 x 7 0 hx (by simp) (by simp)
 have eU:=Qh0 x 0 0 hx (by simp) (by simp)
 have eE:=Qh1 32 x (by omega)
 simp only [Nat.reducePow,Nat.reduceMul,Nat.reduceAdd,Nat.reduceSub,if_true,Nat.reduceEqDiff,if_false,reduceCtorEq] at eR eH eI eU eE
 simp only [Qrr,Qak] at hf
 rcases hf with hf | hf | hf | hf | hf | hf | hf | hf | hf <;>
  simp only [hf,QbM,Yq,is,fld,Int.reduceEq,if_true,if_false,or_true,or_false,Int.reducePow,Int.reduceToNat,eR,eH,eI,eU,eE,decide_eq_true_eq,Int.ediv_one] <;> clear eR eH eI eU eE
 all_goals (try omega)
 obtain ⟨_,_,_,_,hn | hn⟩:=hf <;> simp [hn] <;> omega
def parts (fmt:Int→List UInt8) (f:Int) (x:In):List (List UInt8) :=
 (if Zy f then [120::fmt x.rd] else [])++(if ZW f then [120::fmt x.rs1] else [])++(if QaH f then [120::fmt x.rs2] else [])++(if f=82∨f=69 then [] else [fmt x.imm])
def bitsOf (f:Int):List (Nat × Nat) :=
 if f=73 then [(20,12)] else if f=72 then [(20,6)] else if f=87 then [(20,5)] else if f=83 then [(25,7),(7,5)] else if f=66 then [(31,1),(7,1),(25,6),(8,4)]
 else if f=85 then [(12,20)] else if f=74 then [(31,1),(12,8),(20,1),(21,10)] else []
def Qdu (f:Int):Nat:=if f=66∨f=74 then 1 else if f=85 then 12 else 0
def QnA (f:Int):Bool:=f=73∨f=83∨f=66∨f=85∨f=74
def Qv (l:List (Nat × Nat)) (z:Nat):Nat:=l.foldl (fun n b=>n+b.2) z
def QoO (w:Int) (l:List (Nat × Nat)) (z:Int):Int:=l.foldl (fun n b=>n * 2 ^ b.2+fld w b.1 b.2) z
def Qzp (l:List (Nat × Nat)) (n:Int):Int × Int:=l.foldr (fun b p=>(p.1+p.2 % 2 ^ b.2 * 2 ^ b.1,p.2 / 2 ^ b.2)) (0,n)
def numP (f w:Int):Int :=
 let n:=QoO w (bitsOf f) 0 * 2 ^ Qdu f
 if QnA f then sgn n (Qv (bitsOf f) (Qdu f)) else n
def QIK (f n:Int):Bool :=
 let over:=(2:Int) ^ Qv (bitsOf f) (Qdu f)
 if QnA f then decide (n≥(0 - over).tdiv 2∧n<over.tdiv 2∧n % 2 ^ Qdu f=0) else decide (n≥0∧n<over∧n % 2 ^ Qdu f=0)
def Qpf (f n:Int):Int:=(Qzp (bitsOf f) (n / 2 ^ Qdu f)).1
theorem forms (hg:Qwj r=true):r.form=82∨r.form=87∨r.form=73∨r.form=72∨r.form=83∨r.form=66∨r.form=85∨r.form=74∨r.form=69:=by
 simp only [Qwj,Bool.and_eq_true,Bool.or_eq_true,decide_eq_true_eq,or_assoc] at hg
 rcases hg.2 with h | h | h | h | h | h | h | h | h <;> simp [h]
variable {f:Int}
theorem QIh (w:Int) (h:f=82∨f=87∨f=73∨f=72∨f=83∨f=66∨f=85∨f=74∨f=69):numP f w=number w f:=by
 rcases h with rfl | rfl | rfl | rfl | rfl | rfl | rfl | rfl | rfl <;>
  simp only [numP,number,bitsOf,Qdu,QnA,QoO,Qv,List.foldl_cons,List.foldl_nil,Int.reduceEq,if_true,if_false,or_true,or_false,decide_true,decide_false,Bool.false_eq_true,Nat.zero_add,Nat.reduceAdd,Int.zero_mul,Int.zero_add,Int.reducePow,Int.mul_one] <;> (try rfl)
 ·congr 1; omega
 ·congr 1; omega
theorem Qvl (n:Int) (h:f=82∨f=87∨f=73∨f=72∨f=83∨f=66∨f=85∨f=74∨f=69) (hr:room f n=true):Qpf f n=spread f n:=by
 rcases h with rfl | rfl | rfl | rfl | rfl | rfl | rfl | rfl | rfl <;>
  simp only [Qpf,Qzp,spread,room,bitsOf,Qdu,List.foldr_cons,List.foldr_nil,Int.reduceEq,if_true,if_false,or_true,or_false,Int.reducePow,Int.zero_add,Int.ediv_one,decide_eq_true_eq] at hr ⊢ <;> (try omega)
theorem QAV (n:Int) (h:f=82∨f=87∨f=73∨f=72∨f=83∨f=66∨f=85∨f=74∨f=69):QIK f n=room f n:=by
 rcases h with rfl | rfl | rfl | rfl | rfl | rfl | rfl | rfl | rfl <;>
  simp [QIK,room,bitsOf,Qdu,QnA,Qv] <;> (try (rw [Bool.eq_iff_iff]; simp only [Bool.and_eq_true,decide_eq_true_eq]; omega))
 all_goals omega
theorem Qgt (x y:Nat) (hx:x<4294967296) (hy:y<4294967296):IntKind.u32.wrap (BitVec.ofInt 32 (x:Int) ||| BitVec.ofInt 32 (y:Int)).toNat=((x ||| y:Nat):Int):=by
 have e:∀ z:Nat,z<4294967296→(BitVec.ofInt 32 (z:Int)).toNat=z:=fun z hz=>by
  rw [BitVec.toNat_ofInt]
  have:((z:Int) % ((2 ^ 32:Nat):Int))=z:=Int.emod_eq_of_lt (by omega) (by omega)
  rw [this]; simp
 rw [BitVec.toNat_or,e x hx,e y hy]
 have:x ||| y<2 ^ 32:=Nat.or_lt_two_pow (by omega) (by omega)
 apply Zl
 ·simp [IntKind.min,IntKind.signed]
 ·simp [IntKind.max,IntKind.signed,IntKind.bits]; omega
def dig (a0 a1 a2 a3 a4 a5:Nat):Nat:=a0+2 ^ 7 * (a1+2 ^ 5 * (a2+2 ^ 3 * (a3+2 ^ 5 * (a4+2 ^ 5 * a5))))
variable {a0 a1 a2 a3 a4 a5 d:Nat}
theorem QrC {b0 b1 b2 b3 b4 b5:Nat} (h0:a0<128) (h1:a1<32) (h2:a2<8) (h3:a3<32) (h4:a4<32) (g0:b0<128) (g1:b1<32) (g2:b2<8) (g3:b3<32) (g4:b4<32) :
 dig a0 a1 a2 a3 a4 a5 ||| dig b0 b1 b2 b3 b4 b5=dig (a0 ||| b0) (a1 ||| b1) (a2 ||| b2) (a3 ||| b3) (a4 ||| b4) (a5 ||| b5):=by
 unfold dig
 rw [QbO 7 _ _ _ _ (by omega) (by omega),QbO 5 _ _ _ _ (by omega) (by omega),QbO 3 _ _ _ _ (by omega) (by omega),QbO 5 _ _ _ _ (by omega) (by omega),QbO 5 _ _ _ _ (by omega) (by omega)]
theorem QgC (h0:a0<128) (h1:a1<32) (h2:a2<8) (h3:a3<32) (h4:a4<32) (h5:a5<128):dig a0 a1 a2 a3 a4 a5<4294967296:=by unfold dig; omega
theorem QH9 {f:Nat} (hf:f % 2=0) (hd:d<2):f ||| d=f+d:=by
 have:=QbO 1 0 (f / 2) d 0 (by omega) (by omega)
 have e:0+2 ^ 1 * (f / 2)=f:=by omega
 rw [e] at this
 simp at this
 rw [this]; omega
def orP (l:List Int):Int:=l.foldl (fun n x=>IntKind.u32.wrap (BitVec.ofInt 32 n ||| BitVec.ofInt 32 x).toNat) 0
theorem QIc {c f3 f7 rd r1 r2 a b c':Nat} (h0:c<128) (h1:f3<8) (h2:f7<128) (h3:rd<32) (h4:r1<32) (h5:r2<32) (ha:a<32) (hb:b<256) (hc:c'<32) (hd:d<128)
 (k1:rd=0∨a=0) (k2:f3=0∨b=0) (k3:r1=0∨b=0) (k4:r2=0∨c'=0) (k5:f7=0∨d=0∨(f7 % 2=0∧d<2)) :
 orP [((dig c 0 f3 0 0 f7:Nat):Int),((dig 0 rd 0 0 0 0:Nat):Int),((dig 0 0 0 r1 0 0:Nat):Int),((dig 0 0 0 0 r2 0:Nat):Int),((dig 0 a (b % 8) (b / 8) c' d:Nat):Int)] =
  ((dig c 0 f3 0 0 f7:Nat):Int)+((dig 0 rd 0 0 0 0:Nat):Int)+((dig 0 0 0 r1 0 0:Nat):Int)+((dig 0 0 0 0 r2 0:Nat):Int)+((dig 0 a (b % 8) (b / 8) c' d:Nat):Int):=by
 simp only [orP,List.foldl_cons,List.foldl_nil]
 have z:(0:Int)=((dig 0 0 0 0 0 0:Nat):Int):=by simp [dig]
 rw [z,Qgt _ _ (QgC (by omega) (by omega) (by omega) (by omega) (by omega) (by omega)) (QgC (by omega) (by omega) (by omega) (by omega) (by omega) (by omega)),QrC (by omega) (by omega) (by omega) (by omega) (by omega) (by omega) (by omega) (by omega) (by omega) (by omega)]
 simp only [Nat.zero_or,Nat.or_zero]
 rw [Qgt _ _ (QgC (by omega) (by omega) (by omega) (by omega) (by omega) (by omega)) (QgC (by omega) (by omega) (by omega) (by omega) (by omega) (by omega)),QrC (by omega) (by omega) (by omega) (by omega) (by omega) (by omega) (by omega) (by omega) (by omega) (by omega)]
 simp only [Nat.zero_or,Nat.or_zero]
 rw [Qgt _ _ (QgC (by omega) (by omega) (by omega) (by omega) (by omega) (by omega)) (QgC (by omega) (by omega) (by omega) (by omega) (by omega) (by omega)),QrC (by omega) (by omega) (by omega) (by omega) (by omega) (by omega) (by omega) (by omega) (by omega) (by omega)]
 simp only [Nat.zero_or,Nat.or_zero]
 rw [Qgt _ _ (QgC (by omega) (by omega) (by omega) (by omega) (by omega) (by omega)) (QgC (by omega) (by omega) (by omega) (by omega) (by omega) (by omega)),QrC (by omega) (by omega) (by omega) (by omega) (by omega) (by omega) (by omega) (by omega) (by omega) (by omega)]
 simp only [Nat.zero_or,Nat.or_zero]
 rw [Qgt _ _ (QgC (by omega) (by omega) (by omega) (by omega) (by omega) (by omega)) (QgC (by omega) (by omega) (by omega) (by omega) (by omega) (by omega)),QrC (by omega) (by omega) (by omega) (by omega) (by omega) (by omega) (by omega) (by omega) (by omega) (by omega)]
 have e1:rd ||| a=rd+a:=by rcases k1 with h | h <;> subst h <;> simp
 have e2:f3 ||| b % 8=f3+b % 8:=by rcases k2 with h | h <;> subst h <;> simp
 have e3:r1 ||| b / 8=r1+b / 8:=by rcases k3 with h | h <;> subst h <;> simp
 have e4:r2 ||| c'=r2+c':=by rcases k4 with h | h <;> subst h <;> simp
 have e5:f7 ||| d=f7+d:=by
  rcases k5 with h | h | h
  ·subst h; simp
  ·subst h; simp
  ·exact QH9 h.1 h.2
 rw [e1,e2,e3,e4,e5,Nat.or_zero]
 unfold dig
 omega
theorem QAl {m:Int} (h0:0≤m) (h1:m<4294967296):orP [m,0,0,0,0]=m:=by
 obtain ⟨x,rfl⟩:=Int.eq_ofNat_of_zero_le h0
 have z:(0:Int)=((0:Nat):Int):=rfl
 simp only [orP,List.foldl_cons,List.foldl_nil]
 rw [z,Qgt 0 x (by omega) (by omega),Nat.zero_or,Qgt x 0 (by omega) (by omega),Nat.or_zero,Qgt x 0 (by omega) (by omega),Nat.or_zero,Qgt x 0 (by omega) (by omega),Nat.or_zero,Qgt x 0 (by omega) (by omega),Nat.or_zero]
theorem QIb {x:In} (hk:T[(x.op - 1).toNat]?=some r) (hd:0≤x.rd∧x.rd≤31) (h1:0≤x.rs1∧x.rs1≤31) (h2:0≤x.rs2∧x.rs2≤31) (z1:Zy r.form=false→x.rd=0) (z2:ZW r.form=false→x.rs1=0)
 (z3:QaH r.form=false→x.rs2=0) (hr:room r.form x.imm=true) :
 orP [Yq r,x.rd * 128,x.rs1 * 32768,x.rs2 * 1048576,spread r.form x.imm]=Yq r+x.rd * 128+x.rs1 * 32768+x.rs2 * 1048576+spread r.form x.imm:=by
 have hg0:=Qsi r (List.mem_of_getElem? hk)
 have hg:=hg0
 simp only [Qwj,Bool.and_eq_true,Bool.or_eq_true,decide_eq_true_eq,or_assoc] at hg
 obtain ⟨⟨c0,c1,a0,a1,b0,b1⟩,hf⟩:=hg
 simp only [Qrr,Qak] at hf
 obtain ⟨a,b,c,d,ha0,ha1,hb0,hb1,hc0,hc1,hd0,hd1,hs,s1,s2,s3,s4,s5,s6⟩:=QxD r.form x.imm (by rcases hf with hf | hf | hf | hf | hf | hf | hf | hf | hf <;> simp [hf])
 by_cases hE:r.form=69
 ·rw [hE] at z1 z2 z3
  rw [hs]
  obtain ⟨rfl,rfl,rfl,rfl⟩:=s6 (.inr hE)
  rw [z1 rfl,z2 rfl,z3 rfl]
  have hm:0≤Yq r∧Yq r<4294967296:=by unfold Yq; split <;> omega
  simp only [Int.zero_mul,Int.add_zero]
  exact QAl hm.1 hm.2
 ·have hm:Yq r=r.code+r.f3 * 4096+r.f7 * 33554432:=by
   unfold Yq
   rw [if_neg]
   rcases hf with hf | hf | hf | hf | hf | hf | hf | hf | hf <;> first | (exact hf.2) | (exact hf.2.2) | (exact hf.2.2.2) | (exact absurd hf.1 hE)
  have key:=QIc (c:=r.code.toNat) (f3:=r.f3.toNat) (f7:=r.f7.toNat) (rd:=x.rd.toNat) (r1:=x.rs1.toNat) (r2:=x.rs2.toNat) (a:=a.toNat) (b:=b.toNat) (c':=c.toNat) (d:=d.toNat)
   (by omega) (by omega) (by omega) (by omega) (by omega) (by omega) (by omega) (by omega) (by omega) (by omega)
  have q1:((dig r.code.toNat 0 r.f3.toNat 0 0 r.f7.toNat:Nat):Int)=Yq r:=by rw [hm]; unfold dig; omega
  have q2:((dig 0 x.rd.toNat 0 0 0 0:Nat):Int)=x.rd * 128:=by unfold dig; omega
  have q3:((dig 0 0 0 x.rs1.toNat 0 0:Nat):Int)=x.rs1 * 32768:=by unfold dig; omega
  have q4:((dig 0 0 0 0 x.rs2.toNat 0:Nat):Int)=x.rs2 * 1048576:=by unfold dig; omega
  have q5:((dig 0 a.toNat (b.toNat % 8) (b.toNat / 8) c.toNat d.toNat:Nat):Int)=spread r.form x.imm:=by rw [hs]; unfold dig; omega
  rw [q1,q2,q3,q4,q5] at key
  clear q1 q2 q3 q4 q5 hm hs
  apply key
  all_goals (rcases hf with ⟨hf,hh⟩ | ⟨hf,hh⟩ | ⟨hf,hh⟩ | ⟨hf,hh⟩ | ⟨hf,hh⟩ | ⟨hf,hh⟩ | ⟨hf,hh⟩ | ⟨hf,hh⟩ | ⟨hf,hh⟩)
  all_goals (rw [hf] at hr z1 z2 z3 s1 s2 s3 s4 s5 s6; simp only [Zy,ZW,QaH,room,Int.reduceEq,or_true,or_false,if_true,if_false,decide_true,decide_false,Bool.true_eq_false,false_implies,decide_eq_true_eq,forall_const] at hr z1 z2 z3 s1 s2 s3 s4 s5 s6)
  all_goals (first | omega | (exact absurd hf hE))
end Go.Rv
namespace Go.Proofs.YtfgccihafnjalaaGreatDoor
open Go Go.Am Go.Rv
set_option maxRecDepth 100000
variable {P:Program}
def pr (a b:Int):V:=.agg [.int .i64 a,.int .i64 b]
def G0:Nat→Option V:=fun g=>match g with
 | 0=>some (pr 7 5) | 1=>some (pr 15 5) | 2=>some (pr 20 5) | 3=>some (pr 12 3) | 4=>some (pr 25 7)
 | 5=>some (Qsj .u64 Lib.pow10Tab) | _=>none
def Qy0 (l:List (Nat × Nat)):V:=match l with
 | []=>.lst 0 [] true
 | b::l=>.lst 2 ((b::l).map fun b=>pr b.1 b.2) true
def Qms (f:Int):List V:=[.bool (Zy f),.bool (ZW f),.bool (QaH f),Qy0 (bitsOf f),.int .i64 (Qdu f),.bool (QnA f),.int .u32 (QbM f)]
def Qnn (r:RR):List V:=Qms r.form++[.str r.name,.int .u32 (Yq r)]
def zeroC:List V:=[.bool false,.bool false,.bool false,.lst 0 [] true,.int .i64 0,.bool false,.int .u32 0,.str [],.int .u32 0]
def tabC:List V:=zeroC++(T.map Qnn).flatten
theorem QyV (hT:Qh P tab):Pure P G0 Qot [] fun v=>v=.agg tabC :=
 run_pure hT 200 80 (.agg tabC) (fun v=>veq v (.agg tabC)) (veq_ok _) rfl (by kernel_rfl)
end Go.Proofs.YtfgccihafnjalaaGreatDoor
namespace Go.Proofs.YtfgccihafnjalaaGreatDoor
open Go Go.Am Go.Rv
set_option maxRecDepth 100000
variable {P:Program} {G:Nat→Option V}
section
attribute [local go_sem] Bool.not_false Nat.add_zero Nat.le_refl Nat.zero_add Nat.zero_le decide_false decide_true Qz Qc0 QB0 QBZ ZE QBY QBX QBW QBV QBU QBT QBS QBR
def u32 (w:Int):Prop:=0≤w∧w<4294967296
def frm (a b c:Bool) (l:List (Nat × Nat)) (z:Nat) (sg:Bool) (m:Int):List V:=[.bool a,.bool b,.bool c,Qy0 l,.int .i64 z,.bool sg,.int .u32 m]
theorem QbD (m k:Nat) (h:m≤k):(1:Int)≤2 ^ m∧(2:Int) ^ m≤2 ^ k:=by
 have h1:=Nat.pow_le_pow_right (n:=2) (by omega) h
 have h2:0<2 ^ m:=Nat.pow_pos (by omega)
 constructor
 ·exact_mod_cast h2
 ·exact_mod_cast h1
theorem QBj {w:Int} {a m:Nat} (hw:u32 w) (ha:a≤31) (hm:m≤30) :
 IntKind.u32.wrap (BitVec.ofInt 32 (w.fdiv (2 ^ min a 32)) &&& BitVec.ofInt 32 (IntKind.u32.wrap (IntKind.u32.wrap (1 * 2 ^ min m 32) - 1))).toNat=fld w a m:=by
 have e1:min a 32=a:=by omega
 have e2:min m 32=m:=by omega
 obtain ⟨p1,p2⟩:=QbD m 30 hm
 have e3:IntKind.u32.wrap (1 * 2 ^ m)=2 ^ m:=by
  rw [Int.one_mul]; exact Zl _ (by simp [IntKind.min,IntKind.signed]; omega) (by simp [IntKind.max,IntKind.signed,IntKind.bits]; omega)
 have e4:IntKind.u32.wrap (2 ^ m - 1)=2 ^ m - 1:=Zl _ (by simp [IntKind.min,IntKind.signed]; omega) (by simp [IntKind.max,IntKind.signed,IntKind.bits]; omega)
 obtain ⟨q1,q2⟩:=QbD a 31 ha
 rw [e1,e2,e3,e4,Int.fdiv_eq_ediv_of_nonneg _ (by omega)]
 exact QtN .u32 m _ _ rfl (by simp [IntKind.bits]; omega)
theorem c_of (hT:Qh P tab) (w:Int) (a m:Nat) (hw:u32 w) (ha:a≤31) (hm:m≤30):Pure P G Qfl [pr a m,.int .u32 w] fun v=>v=.int .u32 (fld w a m):=by
 intro t
 refine Xq 0 (Nat.zero_le _) (Q0 hT Qav (by simp [Qc0]) (Ql 1000 ?_))
 simp -implicitDefEqProofs (disch:=omega) only [go_sem,↓reduceIte,reduceCtorEq,Nat.reduceAdd,Nat.reduceEqDiff,Nat.reduceLeDiff,pr]
 exact congrArg (V.int .u32) (QBj hw ha hm)
theorem Qdj (l:List (Nat × Nat)):∃ z,Qy0 l=.lst z (l.map fun b=>pr b.1 b.2) true∧(z=2∨l=[]):=by
 cases l with
 | nil=>exact ⟨0,rfl,.inr rfl⟩
 | cons b l=>exact ⟨2,rfl,.inl rfl⟩
variable {l:List (Nat × Nat)}
theorem QIH (hb:∀ p∈l,p.2≤30) (z:Nat):Qv l z≤z+30 * l.length:=by
 induction l generalizing z with
 | nil=>simp [Qv]
 | cons p l ih =>
   have h1:=hb p List.mem_cons_self
   have:=ih (fun q hq=>hb q (List.mem_cons_of_mem _ hq)) (z+p.2)
   simp only [Qv,List.foldl_cons,List.length_cons] at this ⊢
   omega
variable {i:Nat}
theorem QgH {p:Nat × Nat} (h:l[i]?=some p) (z:Nat):Qv (l.take (i+1)) z=Qv (l.take i) z+p.2:=by
 rw [List.take_add_one,h]; simp [Qv]
theorem wrap_i64 {x:Int} (h1:-9223372036854775808≤x) (h2:x≤9223372036854775807):IntKind.i64.wrap x=x:=Zl _ (by simpa [IntKind.min,IntKind.signed,IntKind.bits] using h1) (by simpa [IntKind.max,IntKind.signed,IntKind.bits] using h2)
theorem Qe2 {n:Nat} (h:i<n) (hn:n≤1000000000):IntKind.i64.wrap ((i:Int)+1)=((i+1:Nat):Int):=by rw [wrap_i64 (by omega) (by omega)]; rfl
theorem QyU (hT:Qh P tab) (a b c:Bool) (l:List (Nat × Nat)) (z:Nat) (sg:Bool) (m:Int) (hl:l.length≤4) (hb:∀ p∈l,p.2≤30) (hz:z≤30) :
 Pure P G Qfk [.agg (frm a b c l z sg m)] fun v=>v=.int .i64 (Qv l z):=by
 intro t
 obtain ⟨y,hy,hyl⟩:=Qdj l
 refine Xq 0 (Nat.zero_le _) (Q0 hT ZB (by simp [ZE]) (Ql 1000 ?_))
 simp -implicitDefEqProofs (disch:=omega) only [go_sem,↓reduceIte,reduceCtorEq,Nat.reduceAdd,Nat.reduceEqDiff,Nat.reduceLeDiff,frm,hy,List.length_map]
 refine QlP (fun n fr σ=>∃ i t',i≤l.length∧n=l.length - i∧Qf fr 3=.int .i64 (Qv (l.take i) z)∧Qf fr 9=.lst y (l.map fun b=>pr b.1 b.2) true∧Qf fr 10=.int .i64 l.length∧Qf fr 11=.int .i64 i ∧
  σ=⟨t',[some (.arr t 173 (frm a b c l z sg m))]⟩) (fun n fr σ hJ=>?_) (m0:=l.length) ⟨0,t+1,Nat.zero_le _,rfl,?_⟩
 ·obtain ⟨i,t',hi,rfl,f3,f9,f10,f11,rfl⟩:=hJ
  refine Ql 1000 ?_
  rcases Nat.lt_or_ge i l.length with hlt | hge
  ·have hy2:y=2:=by rcases hyl with h | h; exact h; rw [h] at hlt; simp at hlt
   subst hy2
   obtain ⟨p,hp⟩:∃ p,l[i]?=some p:=⟨_,List.getElem?_eq_getElem hlt⟩
   have hg:(l.map fun b=>pr b.1 b.2).getD i .any=.agg [.int .i64 p.1,.int .i64 p.2]:=by simp [List.getD_eq_getElem?_getD,hp,pr]
   have hw:=QIH (l:=l.take (i+1)) (fun q hq=>hb q (List.mem_of_mem_take hq)) z
   have hw2:(l.take (i+1)).length≤4:=by simp; omega
   rw [QgH hp] at hw
   have e1:IntKind.i64.wrap ((Qv (l.take i) z:Int)+(p.2:Int))=((Qv (l.take (i+1)) z:Nat):Int):=by rw [QgH hp,wrap_i64 (by omega) (by omega)]; push_cast; rfl
   have e2:=Qe2 hlt (by omega)
   simp -implicitDefEqProofs (disch:=omega) only [go_sem,↓reduceIte,reduceCtorEq,Nat.reduceAdd,Nat.reduceEqDiff,frm,hy,List.length_map,f3,f9,f10,f11,hlt,hg]
   refine ⟨l.length - (i+1),_,_,by omega,Shift.drop (o':=[some (.arr t 173 (frm a b c l z sg m))]) (t':=t'+1) (by simp [Xw,frm,hy]) (Nat.le_refl _) (Nat.zero_le _),i+1,t'+1,hlt,rfl,?_⟩
   simp -implicitDefEqProofs (disch:=omega) only [go_sem,↓reduceIte,Nat.reduceEqDiff,frm,hy,f9,f10,e1,e2]
  ·simp -implicitDefEqProofs (disch:=omega) only [go_sem,↓reduceIte,f10,f11,show ¬ i<l.length from by omega]
   have hi:i=l.length:=by omega
   subst hi
   rw [List.take_length] at f3
   refine Qa 1000 ?_
   simp -implicitDefEqProofs (disch:=omega) only [go_sem,↓reduceIte,Nat.reduceEqDiff,f3]
 ·simp -implicitDefEqProofs (disch:=omega) only [go_sem,↓reduceIte,reduceCtorEq,Nat.reduceEqDiff,frm,hy]
  simp [Qv]
end
end Go.Proofs.YtfgccihafnjalaaGreatDoor
