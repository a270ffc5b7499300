/- The library's sort at pairs. -/
import Derived.Test.YtfgccihafnjalaaGreatDoorSq1
import Derived.Test.YtfgccihafnjalaaGreatDoorJ5
import Derived.Shelf.SlSortCmp.WholeK
import Derived.Test.YtfgccihafnjalaaGreatDoorShP
import Derived.Test.YtfgccihafnjalaaGreatDoorJ7
import Derived.Test.YtfgccihafnjalaaGreatDoorJ12
import Derived.Test.YtfgccihafnjalaaGreatDoorSeat
import Derived.Test.YtfgccihafnjalaaGreatDoorJ11
import Derived.Test.YtfgccihafnjalaaGreatDoorJ6
import Derived.Test.YtfgccihafnjalaaGreatDoorY
open Nat renaming reduceEqDiff → rq, reduceAdd → rA, reduceLeDiff → rL, reduceLT → rT, zero_add → zA, le_refl → lR, zero_le → zL, add_zero → aZ
open List renaming length_cons → lC, length_nil → lN, take_succ_cons → tS, length_append → lA, nil_append → nA, cons_append → cA, append_assoc → aA, take_nil → tN, take_zero → tZ, length_map → lM
open Bool renaming not_false → nF, not_true → nT
namespace Go.Proofs.YtfgccihafnjalaaGreatDoor
open Go Go.Am Go.Sort Go.Re
set_option maxRecDepth 100000
variable {G:Nat→Option V}
theorem flat_get {α:Type} [Inhabited α] (enc:α→List Value) (k:Nat) (hk:∀ x,(enc x).length=k):∀ (l:List α) (t:Nat),t<l.length * k→(l.flatMap enc)[t]?=some ((enc l[t / k]!)[t % k]!)
 | [],t,h=>by simp at h
 | x::l,t,h=>by
   have k0:0<k:=by rcases Nat.eq_zero_or_pos k with e | e; · subst e; simp at h
                   ·exact e
   rw [List.flatMap_cons]
   rcases Nat.lt_or_ge t k with h1 | h1
   ·rw [List.getElem?_append_left (by rw [hk]; exact h1),Nat.div_eq_of_lt h1,Nat.mod_eq_of_lt h1]
    have:t<(enc x).length:=by rw [hk]; exact h1
    simp [this]
   ·rw [List.getElem?_append_right (by rw [hk]; exact h1),hk]
    have ih:=flat_get enc k hk l (t - k) (by rw [lC,Nat.succ_mul] at h; omega)
    rw [ih]
    have e1:t / k=(t - k) / k+1:=by rw [← Nat.sub_add_cancel h1]; simp [k0]
    have e2:t % k=(t - k) % k:=by conv=>lhs; rw [← Nat.sub_add_cancel h1]; 
                                  simp
    rw [e1,e2]
    simp
theorem QGx {α:Type} [Inhabited α] (enc:α→List Value) (k:Nat) (hk:∀ x,(enc x).length=k) (l:List α):(l.flatMap enc).toArray=flatK enc k l.toArray:=by
 have hlen:(l.flatMap enc).length=l.length * k:=by
  induction l with
  | nil=>simp
  | cons x l ih=>rw [List.flatMap_cons,lA,hk,ih,lC,Nat.succ_mul]; omega
 refine ext_get! (by simp [hlen]) fun t ht=>?_
 have ht':t<l.length * k:=by simpa [hlen] using ht
 rw [get_flatK enc k _ t (by simpa using ht')]
 have:=flat_get enc k hk l t ht'
 simp [this]
def prK (p:Pr):List (IntKind × Int):=[(.i64,p.v),(.u8,p.k),(.i64,p.n)]
def prE (p:Pr):List Value:=[.int .i64 p.v,.int .u8 p.k,.int .i64 p.n]
theorem prK_C (l:List Pr):(l.flatMap prK).map cI=fl prC l:=by
 induction l with
 | nil=>rfl
 | cons x l ih=>rw [List.flatMap_cons,List.map_append,ih]; rfl
theorem prK_E (l:List Pr):(l.flatMap prK).map vI=l.flatMap prE:=by
 induction l with
 | nil=>rfl
 | cons x l ih=>rw [List.flatMap_cons,List.map_append,ih]; rfl
theorem Qr9 (l:List Pr):(l.flatMap prK).length=l.length * 3:=by
 induction l with
 | nil=>rfl
 | cons x l ih=>rw [List.flatMap_cons,lA,ih,lC,Nat.succ_mul,Nat.add_comm]; rfl
theorem ltP (x y:Pr):ltOf cfP x y=decide (lt x y):=by
 have key:cfP x y<0↔lt x y:=by
  unfold cfP orI Qvd lt
  repeat' split
  all_goals omega
 unfold ltOf
 exact decide_eq_decide.2 key
theorem swoP:SWO (ltOf cfP) where
 irrefl x:=by rw [ltP]; simpa using Qkz x
 trans x y z h1 h2:=by rw [ltP,decide_eq_true_eq] at *; exact lt_trans h1 h2
 ntrans x y z h1 h2:=by
  rw [ltP,decide_eq_false_iff_not] at *
  unfold lt at *; omega
theorem QCN:QkF Tryz.prog G:=fun {base k v t} {o} {l} {n} hn hb ho hl=>by
 subst hn
 by_cases hz:l=[]
 ·subst hz
  refine (Qz2 (fun p cap w=>AnyF.slices_SortFunc_none Tryz.laysSortP p cap _ w)).conseq fun r σ' hr=>?_
  obtain ⟨rfl,rfl⟩:=hr
  refine ⟨rfl,?_⟩
  have e:fl prC (QnB [])=fl prC []:=by simp [QnB]
  obtain ⟨h1,h2⟩:=List.getElem?_eq_some_iff.1 ho
  rw [e,← h2,List.set_getElem_self]
 ·rw [← prK_C] at ho ⊢
  refine QHp (zs':=(QnB l).flatMap prK) hb ho (Qr9 l) (List.length_pos_iff.2 hz) (by rw [Qr9,Qr9,Qmf]) fun blk off cap w hH hblk=>?_
  rw [prK_E,QGx prE 3 (fun _=>rfl)] at hH ⊢
  have h:=AnyQ.slices_SortFunc_total Tryz.laysSortP 3 (Tryz.isAgg64) (Tryz.sizeOf64) prE (fun _=>rfl) (fun x v hv=>by simp [prE] at hv; rcases hv with rfl | rfl | rfl <;> rfl) cfP swoP 31 #[] blk off cap l.toArray w (enters_of Tryz.func31 (by kernel_rfl) rfl)
   (fun _ _ _ _ x y=>QFB x y _) hH hblk (by simp; omega) (fun x y h1 h2=>by
    rw [ltP,decide_eq_false_iff_not] at h1 h2
    rcases QmC x y with k | k | k
    ·exact absurd k h1
    ·exact k
    ·exact absurd k h2)
  refine h.mono fun e w' ⟨he,n,os,hw⟩=>⟨he,n,os,?_⟩
  rw [hw]
  have e:(l.mergeSort fun x y=>!ltOf cfP y x)=QnB l:=by
   unfold QnB; congr 1; funext x y; rw [ltP]
  rw [show l.toArray.toList=l from rfl,e]
  rfl
end Go.Proofs.YtfgccihafnjalaaGreatDoor
namespace Go.Proofs.YtfgccihafnjalaaGreatDoor
open Go Go.Am
set_option maxRecDepth 100000
def kF:Fmt Tryz.prog G0:={ fmt:=Qpw,le:=Qzp,int:=fun i h1 h2=>QsI i ⟨h1,h2⟩,itoa:=fun i h1 h2=>c_Itoa i ⟨h1,h2⟩ }
theorem QGS:Works Tryz.prog G0:=QzC Ql4 kF QCN c_fn2
end Go.Proofs.YtfgccihafnjalaaGreatDoor
namespace Go.Proofs.YtfgccihafnjalaaGreatDoor
open Go Go.Am Go.Re Go.Rv
set_option maxRecDepth 100000
theorem run_W {P:Program} {G:Nat→Option V} {O:Nat→List V→Option V} (hO:QpT P G O) {T:Nat→Option AF} (hT:Qn P T) (fuel k:Nat) {n base:Nat} {c:AC} {fr:Fr} {σ:Am.H} {res:List RV} (p:V→Am.H→Bool)
 (h:xC G (xFO G O T fuel k) base fuel c fr σ (fun e fr σ=>match e with
  | .ex _=>false
  | _=>QCH fr σ res fun l=>p (QeI l) σ)=true):W P G n base c fr σ (QtI G res fun v σ=>p v σ=true) :=
 (QFv P G (QvU P G hO hT k) fuel _ _ _ _ h).conseq fun e fr σ he=>by
  cases e with
  | ex id=>cases he
  | nrm=>exact Qjf G _ (fun l hl=>hl) he
  | ret=>exact Qjf G _ (fun l hl=>hl) he
abbrev fnH:Am.H:=⟨1,[some (.arr 0 39 [.str [],.int .i64 0,.lst 0 [] true,.int .i64 0,.lst 0 [] true])]⟩
def fnB (n:Nat):Bool:=xC G0 (xFO G0 oRv tab 400 60) 0 400 (Zd 2 proofmarklaw25_function.body) [(2,.ptr 0 0 0),(3,.int .i64 ((n:Nat):Int))] fnH (fun e fr σ=>match e with
 | .ex _=>false
 | _=>QCH fr σ proofmarklaw25_function.res fun l=>fnP n (QeI l) σ)
theorem c_fnN {s:Int} (h0:0≤s) (_h1:s≤255) (hB:∀ n:Nat,n≤4→fnB n=true):Am.Pure Tryz.prog G0 Qw [.int .u8 s] fun v=>v=.agg (fnC (s % 5).toNat):=by
 refine fn_of rfl (Q6 Ql4 QQ (by simp [proofmarklaw25_function]) ?_)
 show W Tryz.prog G0 37 0 (.seq (.reg QDO []) (.seq (.reg QDN [7,8,9]) (Zd 2 proofmarklaw25_function.body))) _ _ (QtI G0 proofmarklaw25_function.res _)
 have hW:=fun n hn=>run_W (n:=37) (QCR Ql4) Ql4 400 60 (fnP n) (hB n hn)
 obtain ⟨T,hT⟩:∃ c,c=Zd 2 proofmarklaw25_function.body:=⟨_,rfl⟩
 rw [← hT] at hW ⊢
 refine Qq 11 ?_
 simp -implicitDefEqProofs (disch:=omega) only [go_sem,↓reduceIte,reduceCtorEq,rq,Int.reduceEq,zA,proofmarklaw25_function,QDO,QDN,zqe_2,zqe_3,zqe_4,zqe_5,zqe_6,zqe_7,zqe_8]
 have hm:IntKind.i64.wrap (s.tmod 5)=(((s % 5).toNat:Nat):Int):=by rw [Int.tmod_eq_emod_of_nonneg h0,QkG (by omega)]; omega
 rw [hm]
 refine Qml (XX [(2,.ptr 0 0 0),(3,.int .i64 (((s % 5).toNat:Nat):Int))] ⟨rfl,rfl,trivial⟩ ?_)
 exact hW _ (by omega)
theorem fn_B0:fnB 0=true:=by kernel_rfl
theorem fn_B1:fnB 1=true:=by kernel_rfl
theorem fn_B2:fnB 2=true:=by kernel_rfl
theorem fn_B3:fnB 3=true:=by kernel_rfl
theorem fn_B4:fnB 4=true:=by kernel_rfl
end Go.Proofs.YtfgccihafnjalaaGreatDoor
namespace Go.Proofs.YtfgccihafnjalaaGreatDoor
open Go Go.Am Go.Re Go.Rv
theorem c_fnA {s:Int} (h0:0≤s) (h1:s≤255):Am.Pure Tryz.prog G0 Qw [.int .u8 s] fun v=>v=.agg (fnC (s % 5).toNat) :=
 c_fnN h0 h1 fun n hn=>by
  match n,hn with
  | 0,_=>exact fn_B0
  | 1,_=>exact fn_B1
  | 2,_=>exact fn_B2
  | 3,_=>exact fn_B3
  | 4,_=>exact fn_B4
end Go.Proofs.YtfgccihafnjalaaGreatDoor
namespace Go.Re
structure TI (l:List Pr) (frm:Int) (inn:List Int):Prop where
 has:frm∈inn
 conn:∀ u∈inn,Conn (ties l) (vE frm) (vE u)
 nd:inn.Nodup
 sub:∀ u∈inn,u=frm∨∃ p∈l,p.v=u
theorem TI.start (l:List Pr) (frm:Int):TI l frm [frm]:=⟨by simp,fun u hu=>by rw [List.mem_singleton] at hu; subst hu; exact .refl _,by simp,fun u hu=>.inl (by simpa using hu)⟩
theorem TI.len {l:List Pr} {frm:Int} {inn:List Int} (h:TI l frm inn):inn.length≤l.length+1:=QGi h.nd h.sub
theorem TI.add {l:List Pr} {frm:Int} {inn:List Int} (h:TI l frm inn) {p q:Pr} (hp:p∈l) (hq:q∈l) (hk:p.k=q.k) (hn:p.n=q.n) (hi:p.v∈inn) (hno:q.v ∉ inn):TI l frm (inn++[q.v]) where
 has:=List.mem_append_left _ h.has
 conn:=fun u hu=>by
  rcases List.mem_append.1 hu with hu | hu
  ·exact h.conn u hu
  ·rw [List.mem_singleton] at hu; subst hu; exact Qv4 hp hq hk hn (h.conn _ hi)
 nd:=by
  rw [List.nodup_append]
  refine ⟨h.nd,by simp,fun a ha b hb e=>?_⟩
  rw [List.mem_singleton] at hb
  subst e hb; exact hno ha
 sub:=fun u hu=>by
  rcases List.mem_append.1 hu with hu | hu
  ·exact h.sub u hu
  ·rw [List.mem_singleton] at hu; exact .inr ⟨q,hq,hu.symm⟩
def CLto (l:List Pr) (inn:List Int) (i k:Nat):Prop:=∀ (a b:Nat) (p q:Pr),l[a]?=some p→l[b]?=some q→(a<i∨a=i∧b<k)→p.k=q.k→p.n=q.n→p.v∈inn→q.v∈inn
theorem CLto.zero (l:List Pr) (inn:List Int):CLto l inn 0 0:=fun a b p q _ _ h=>by omega
theorem CLto.next {l:List Pr} {inn:List Int} {i k:Nat} (h:CLto l inn i k) {p q:Pr} (hp:l[i]?=some p) (hq:l[k]?=some q) (hc:¬ (p.k=q.k∧p.n=q.n∧p.v∈inn∧q.v ∉ inn)):CLto l inn i (k+1):=fun a b p' q' ha hb ho e1 e2 e3=>by
 by_cases hl:a=i∧b=k
 ·obtain ⟨rfl,rfl⟩:=hl
  rw [hp] at ha; rw [hq] at hb; cases ha; cases hb
  exact Classical.byContradiction fun hno=>hc ⟨e1,e2,e3,hno⟩
 ·exact h a b p' q' ha hb (by omega) e1 e2 e3
theorem CLto.row {l:List Pr} {inn:List Int} {i:Nat} (h:CLto l inn i l.length):CLto l inn (i+1) 0:=fun a b p q ha hb ho=>h a b p q ha hb (by have:=(List.getElem?_eq_some_iff.1 hb).1; omega)
theorem CLto.all {l:List Pr} {frm:Int} {inn:List Int} (h:CLto l inn l.length 0) (hT:TI l frm inn):TiedOk l frm inn:=⟨hT.has,hT.conn,fun p hp q hq e1 e2 e3=>by
 obtain ⟨a,ha,rfl⟩:=List.mem_iff_getElem.1 hp
 obtain ⟨b,hb,rfl⟩:=List.mem_iff_getElem.1 hq
 exact h a b _ _ (List.getElem?_eq_getElem ha) (List.getElem?_eq_getElem hb) (.inl ha) e1 e2 e3⟩
end Go.Re
namespace Go.Proofs.YtfgccihafnjalaaGreatDoor
open Go Go.Am Go.Re
set_option maxRecDepth 100000
variable {P:Program} {G:Nat→Option V}
def ints (c:List Int):List V:=c.map (V.int .i64)
theorem Qo (c:List Int):(ints c).length=c.length:=by simp [ints]
theorem QlP {c:List Int} {i:Nat} {x:Int} (h:c[i]?=some x):(ints c).getD i V.any=.int .i64 x:=by simp [ints,List.getD_eq_getElem?_getD,h]
theorem Qsl:∀ c:List Int,Qc (ints c)=true
 | []=>rfl
 | x::c=>by have:=Qsl c; simpa [ints,Qc,Qe] using this
theorem QwR (c:List Int) (x:Int):ints c++[.int .i64 x]=ints (c++[x]):=by simp [ints]
theorem Qux (c:List Int):∀ u∈ints c,u.cells=[u]:=fun u hu=>by
 unfold ints at hu; obtain ⟨r,_,rfl⟩:=List.mem_map.1 hu; rfl
theorem seen_ints {o:List (Option Ob)} {k w T n:Nat} {c:List Int} (h:o[k]?=some (some (.arr w T (ints c)))) (hn:n=c.length):Seen o (.sl k w 0 1 n none) (.lst 1 (ints c) false):=by
 subst hn
 have:=Seen.row (o:=o) k w 0 1 none T (ints c) (ints c) h (fun j u hj=>by
  simp only [ints,List.getElem?_map,Option.map_eq_some_iff] at hj
  obtain ⟨y,hy,rfl⟩:=hj
  refine ⟨rfl,fun i d hd=>?_⟩
  have hi:i=0:=by have:=(List.getElem?_eq_some_iff.1 hd).1; simp [V.cells] at this; omega
  subst hi
  cases hd
  simp [ints,hy,Qe])
 rw [Qo] at this
 exact this (fun _=>rfl)
theorem QDj (hT:Qn P tab) (c:List Int) (tg:Bool) (n:Int) (hl:c.length≤1000000):Am.Pure P G QbE [.lst 1 (ints c) tg,.int .i64 n] fun u=>u=.bool (decide (n∈c)):=by
 refine fun t=>Xt 0 (zL _) (Q6 hT Q1 (by simp [XD]) (Qq 20 ?_))
 simp -implicitDefEqProofs (disch:=omega) only [go_sem,↓reduceIte,reduceCtorEq,rq,zA,XD,QBr,QBq,QBp,QBo,QBn,QBm,QBl]
 refine XU c (fun i fr σ=>n ∉ c.take i∧Qh fr 0=.lst 1 (ints c) tg∧Qh fr 1=.int .i64 n∧Qh fr 5=.int .i64 ((i:Nat):Int)∧σ=⟨t,[]⟩) (fun e fr σ=>(e=.ret∧n∈c∧Qh fr 4=.bool true)∨(e=.ex 0∧n ∉ c)) ⟨by simp,?_⟩ (fun i x hx fr σ hJ=>?_) (fun i hi fr σ hJ=>?_) (fun e fr σ hE=>?_)
 ·refine ye ?_
  try simp
 ·obtain ⟨hno,f0,f1,f5,rfl⟩:=hJ
  have hlt:=(List.getElem?_eq_some_iff.1 hx).1
  have hD:=QlP hx
  have e2:=Zg hlt (by omega)
  by_cases he:x=n
  ·have hE:(x==n)=true:=by simpa using he
   have hm:n∈c:=he▸List.mem_of_getElem? hx
   refine Qj [(0,.lst 1 (ints c) tg),(1,.int .i64 n),(5,.int .i64 ((i:Nat):Int))] ⟨f0,f1,f5,trivial⟩  1000 ?_
   simp -implicitDefEqProofs (disch:=omega) only [go_sem,Qd,↓reduceIte,reduceCtorEq,rq,zA,decide_true,lR,Qo,true_implies,true_and,and_true,lC,lN,hlt,hD,hE]
   try exact hm
  ·have hE:(x==n)=false:=by simpa using he
   refine Qj [(0,.lst 1 (ints c) tg),(1,.int .i64 n),(5,.int .i64 ((i:Nat):Int))] ⟨f0,f1,f5,trivial⟩  1000 ?_
   simp -implicitDefEqProofs (disch:=omega) only [go_sem,Qd,↓reduceIte,reduceCtorEq,rq,zA,decide_true,lR,Qo,true_implies,and_true,lC,lN,hlt,hD,hE,e2]
   refine ⟨_,_,Shift.refl _ _ _ _,fun hm=>?_,?_⟩
   ·rw [Qz hx,List.mem_append,List.mem_singleton] at hm
    exact hm.elim hno fun e=>he e.symm
   ·exact yb
 ·obtain ⟨hno,f0,f1,f5,rfl⟩:=hJ
  rw [hi,List.take_length] at hno
  refine Qj [(0,.lst 1 (ints c) tg),(1,.int .i64 n),(5,.int .i64 ((i:Nat):Int))] ⟨f0,f1,f5,trivial⟩  12 ?_
  simp -implicitDefEqProofs (disch:=omega) only [go_sem,↓reduceIte,reduceCtorEq,rq,decide_false,Qo,true_and,hi,Nat.lt_irrefl]
  try exact hno
 ·rcases hE with ⟨rfl,hm,f4⟩ | ⟨rfl,hno⟩
  ·refine Qa 12 ?_
   simp -implicitDefEqProofs (disch:=omega) only [go_sem,zL,true_and,f4]
   try simp [hm]
  ·refine Qa 12 ?_
   refine yf ?_
   try simp [hno]
def PassOk (l:List Pr) (frm:Int) (n0:Nat) (inn:List Int) (ag:Bool) (i k:Nat):Prop:=TI l frm inn∧n0≤inn.length∧(ag=true→n0<inn.length)∧(ag=false→CLto l inn i k)
theorem PassOk.no {l:List Pr} {frm:Int} {n0:Nat} {inn:List Int} {ag:Bool} {i k:Nat} (h:PassOk l frm n0 inn ag i k) {p q:Pr} (hp:l[i]?=some p) (hq:l[k]?=some q) (hc:¬ (p.k=q.k∧p.n=q.n∧p.v∈inn∧q.v ∉ inn)):PassOk l frm n0 inn ag i (k+1) :=
 ⟨h.1,h.2.1,h.2.2.1,fun e=>(h.2.2.2 e).next hp hq hc⟩
theorem PassOk.add {l:List Pr} {frm:Int} {n0:Nat} {inn:List Int} {ag:Bool} {i k:Nat} (h:PassOk l frm n0 inn ag i k) {p q:Pr} (hp:l[i]?=some p) (hq:l[k]?=some q) (h1:p.k=q.k) (h2:p.n=q.n) (h3:p.v∈inn) (h4:q.v ∉ inn):PassOk l frm n0 (inn++[q.v]) true i (k+1) :=
 ⟨h.1.add (List.mem_of_getElem? hp) (List.mem_of_getElem? hq) h1 h2 h3 h4,by have:=h.2.1; simp; omega,fun _=>by have:=h.2.1; simp; omega,fun e=>by cases e⟩
abbrev tiJ (l:List Pr) (tg:Bool) (frm:Int) (n0 i:Nat):Nat→Fr→H→Prop:=fun k fr σ=>∃ t w inn ag,PassOk l frm n0 inn ag i k∧Qh fr 0=.lst 3 (prs l) tg∧Qh fr 5=.sl 0 w 0 1 inn.length none∧Qh fr 6=.bool ag∧Qh fr 7=.int .i64 ((i:Nat):Int)∧Qh fr 8=.int .i64 ((k:Nat):Int)∧σ=⟨t,[some (.arr w 3 (ints inn))]⟩
abbrev tiE (l:List Pr) (tg:Bool) (frm:Int) (n0 i:Nat):AE→Fr→H→Prop:=fun e fr σ=>∃ t w inn ag,e=.ex 4∧PassOk l frm n0 inn ag (i+1) 0∧Qh fr 0=.lst 3 (prs l) tg∧Qh fr 5=.sl 0 w 0 1 inn.length none∧Qh fr 6=.bool ag∧Qh fr 7=.int .i64 ((i:Nat):Int)∧σ=⟨t,[some (.arr w 3 (ints inn))]⟩
theorem Qyy (hT:Qn P tab) {l:List Pr} {tg:Bool} {frm:Int} {n0 i k:Nat} {p q:Pr} (hp:l[i]?=some p) (hq:l[k]?=some q) (hl:l.length≤900000) {fr:Fr} {σ:H} (hJ:tiJ l tg frm n0 i k fr σ) :
 W P G 76 0 (AC.seq (AC.seq (AC.reg QaX [18, 19, 20])   (AC.cond (Arg.t 21)   AC.skip   (AC.exit 4)))   (AC.seq (AC.block 5 (AC.seq (AC.seq (AC.reg QaW [24, 25, 26, 27, 28, 29, 30, 31, 32, 33, 34, 35, 36, 37, 38, 39, 40, 41, 42, 43, 44, 45, 46, 47, 48, 49, 50, 51, 52, 53, 54, 55, 56, 57, 58, 59, 60, 61, 62, 63, 64, 65])   (AC.cond (Arg.t 66)   (AC.exit 5)   AC.skip))   (AC.seq (AC.reg YI [67, 68, 69, 70, 71, 72, 73, 74])   (AC.reg YH []))))   (AC.reg YG [22, 23]))) fr σ (Qaw (fun fr σ => ∃ fr' σ', Shift G 76 0 fr σ fr' σ' ∧ tiJ l tg frm n0 i (k + 1) fr' σ') (tiE l tg frm n0 i)) := by
 obtain ⟨t,w,inn,ag,hok,f0,f5,f6,f7,f8,rfl⟩:=hJ
 have hi:=(List.getElem?_eq_some_iff.1 hp).1
 have hk:=(List.getElem?_eq_some_iff.1 hq).1
 have hDp:=Qc7 hp
 have hDq:=Qc7 hq
 simp only [prV,prC] at hDp hDq
 have e2:=Zg hk (by omega)
 have hil:inn.length≤1000000:=by have:=hok.1.len; omega
 by_cases h1:p.k=q.k
 ·have h1':(p.k != q.k)=false:=by simp [h1]
  by_cases h2:p.n=q.n
  ·have h2':(p.n != q.n)=false:=by simp [h2]
   have hH:=QDj (P:=P) (G:=G) hT inn false p.v (by omega)
   have hs1:∀ x:Int,SeenL [some (Ob.arr w 3 (ints inn))] [V.sl 0 w 0 1 inn.length none,V.int .i64 x] [.lst 1 (ints inn) false,V.int .i64 x]:=fun x=>.cons _ _ _ _ (seen_ints rfl rfl) (.cons _ _ _ _ (.same _ rfl) .nil)
   by_cases h3:p.v∈inn
   ·rw [decide_eq_true h3] at hH
    have hH2:=QDj (P:=P) (G:=G) hT inn false q.v (by omega)
    by_cases h4:q.v∈inn
    ·rw [decide_eq_true h4] at hH2
     refine Qj [(0,.lst 3 (prs l) tg),(5,.sl 0 w 0 1 inn.length none),(6,.bool ag),(7,.int .i64 ((i:Nat):Int)),(8,.int .i64 ((k:Nat):Int))] ⟨f0,f5,f6,f7,f8,trivial⟩  12 ?_
     refine yl ?_
     iterate 12 (try (refine Qa 4 ?_; simp -implicitDefEqProofs (disch := omega) only [go_sem, Qd, ↓reduceIte, reduceCtorEq, rA, rq, rL, zA, aZ, lR, Qf, true_implies, and_true, lC, lN, hi, hk, hDp, hDq, h1', h2']))
     refine Qex hT Q1 (σ:=⟨t,[some (Ob.arr w 3 (ints inn))]⟩) hH (hs1 _) rfl 4 ?_
     refine ya ?_
     iterate 12 (try (refine Qa 4 ?_; simp -implicitDefEqProofs (disch:=omega) only [go_sem,Qd,↓reduceIte,reduceCtorEq,rA,rq,rL,zA,aZ,Qf,true_implies,and_true,lC,lN,hk,hDq]))
     refine Qex hT Q1 (σ:=⟨t,[some (Ob.arr w 3 (ints inn))]⟩) hH2 (hs1 _) rfl 4 ?_
     refine ya ?_
     iterate 12 (try (refine Qa 4 ?_; simp -implicitDefEqProofs (disch:=omega) only [go_sem,↓reduceIte,reduceCtorEq,rq,e2]))
     refine ⟨_,_,Shift.refl _ _ _ _,t,w,inn,ag,hok.no hp hq (fun hc=>hc.2.2.2 h4),?_⟩
     exact yb
    ·rw [decide_eq_false h4] at hH2
     refine Qj [(0,.lst 3 (prs l) tg),(5,.sl 0 w 0 1 inn.length none),(6,.bool ag),(7,.int .i64 ((i:Nat):Int)),(8,.int .i64 ((k:Nat):Int))] ⟨f0,f5,f6,f7,f8,trivial⟩  12 ?_
     refine yl ?_
     iterate 12 (try (refine Qa 4 ?_; simp -implicitDefEqProofs (disch := omega) only [go_sem, Qd, ↓reduceIte, reduceCtorEq, rA, rq, rL, zA, aZ, lR, Qf, true_implies, and_true, lC, lN, hi, hk, hDp, hDq, h1', h2']))
     refine Qex hT Q1 (σ:=⟨t,[some (Ob.arr w 3 (ints inn))]⟩) hH (hs1 _) rfl 4 ?_
     refine ya ?_
     iterate 12 (try (refine Qa 4 ?_; simp -implicitDefEqProofs (disch:=omega) only [go_sem,Qd,↓reduceIte,reduceCtorEq,rA,rq,rL,zA,aZ,Qf,true_implies,and_true,lC,lN,hk,hDq]))
     refine Qex hT Q1 (σ:=⟨t,[some (Ob.arr w 3 (ints inn))]⟩) hH2 (hs1 _) rfl 4 ?_
     refine ya ?_
     iterate 12 (try (refine Qa 4 ?_; simp -implicitDefEqProofs (disch:=omega) only [go_sem,Qd,↓reduceIte,reduceCtorEq,rA,rq,rL,zA,aZ,Nat.mul_one,nT,lR,Qo,Qf,true_implies,true_and,and_true,cA,nA,lC,lN,List.getElem?_cons_zero,List.set_cons_zero,nT,hk,hDq,e2]))
     refine ⟨_,_,Shift.refl _ _ _ _,t+1,t,inn++[q.v],true,hok.add hp hq h1 h2 h3 h4,?_⟩
     simp -implicitDefEqProofs (disch:=omega) only [go_sem,↓reduceIte,reduceCtorEq,rq,zA,and_true,lA,lC,lN,QwR]
   ·rw [decide_eq_false h3] at hH
    refine Qj [(0,.lst 3 (prs l) tg),(5,.sl 0 w 0 1 inn.length none),(6,.bool ag),(7,.int .i64 ((i:Nat):Int)),(8,.int .i64 ((k:Nat):Int))] ⟨f0,f5,f6,f7,f8,trivial⟩  12 ?_
    refine yl ?_
    iterate 12 (try (refine Qa 4 ?_; simp -implicitDefEqProofs (disch := omega) only [go_sem, Qd, ↓reduceIte, reduceCtorEq, rA, rq, rL, zA, aZ, lR, Qf, true_implies, and_true, lC, lN, hi, hk, hDp, hDq, h1', h2']))
    refine Qex hT Q1 (σ:=⟨t,[some (Ob.arr w 3 (ints inn))]⟩) hH (hs1 _) rfl 4 ?_
    refine ya ?_
    iterate 12 (try (refine Qa 4 ?_; simp -implicitDefEqProofs (disch:=omega) only [go_sem,↓reduceIte,reduceCtorEq,rq,e2]))
    refine ⟨_,_,Shift.refl _ _ _ _,t,w,inn,ag,hok.no hp hq (fun hc=>h3 hc.2.2.1),?_⟩
    exact yb
  ·have h2':(p.n != q.n)=true:=by simpa using h2
   refine Qj [(0,.lst 3 (prs l) tg),(5,.sl 0 w 0 1 inn.length none),(6,.bool ag),(7,.int .i64 ((i:Nat):Int)),(8,.int .i64 ((k:Nat):Int))] ⟨f0,f5,f6,f7,f8,trivial⟩  12 ?_
   refine yl ?_
   iterate 20 (try (refine Qa 4 ?_; simp -implicitDefEqProofs (disch := omega) only [go_sem, Qd, ↓reduceIte, reduceCtorEq, rA, rq, rL, zA, lR, Qf, true_implies, and_true, lC, lN, hi, hk, hDp, hDq, h1', h2', e2]))
   refine ⟨_,_,Shift.refl _ _ _ _,t,w,inn,ag,hok.no hp hq (fun hc=>h2 hc.2.1),?_⟩
   exact yb
 ·have h1':(p.k != q.k)=true:=by simpa using h1
  refine Qj [(0,.lst 3 (prs l) tg),(5,.sl 0 w 0 1 inn.length none),(6,.bool ag),(7,.int .i64 ((i:Nat):Int)),(8,.int .i64 ((k:Nat):Int))] ⟨f0,f5,f6,f7,f8,trivial⟩  12 ?_
  refine yl ?_
  iterate 20 (try (refine Qa 4 ?_; simp -implicitDefEqProofs (disch := omega) only [go_sem, Qd, ↓reduceIte, reduceCtorEq, rA, rq, rL, zA, Qf, true_implies, and_true, lC, lN, hi, hk, hDp, hDq, h1', e2]))
  refine ⟨_,_,Shift.refl _ _ _ _,t,w,inn,ag,hok.no hp hq (fun hc=>h1 hc.1),?_⟩
  exact yb
theorem QFG (_hT:Qn P tab) {l:List Pr} {tg:Bool} {frm:Int} {n0 i k:Nat} (hk:k=l.length) {fr:Fr} {σ:H} (hJ:tiJ l tg frm n0 i k fr σ) :
 W P G 76 0 (AC.seq (AC.seq (AC.reg QaX [18,19,20])   (AC.cond (Arg.t 21)   AC.skip   (AC.exit 4)))   (AC.seq (AC.block 5 (AC.seq (AC.seq (AC.reg QaW [24,25,26,27,28,29,30,31,32,33,34,35,36,37,38,39,40,41,42,43,44,45,46,47,48,49,50,51,52,53,54,55,56,57,58,59,60,61,62,63,64,65])   (AC.cond (Arg.t 66)   (AC.exit 5)   AC.skip))   (AC.seq (AC.reg YI [67,68,69,70,71,72,73,74])   (AC.reg YH []))))   (AC.reg YG [22,23]))) fr σ (Qaw (fun _ _=>False) (tiE l tg frm n0 i)):=by
 obtain ⟨t,w,inn,ag,hok,f0,f5,f6,f7,f8,rfl⟩:=hJ
 refine Qj [(0,.lst 3 (prs l) tg),(5,.sl 0 w 0 1 inn.length none),(6,.bool ag),(7,.int .i64 ((i:Nat):Int)),(8,.int .i64 ((k:Nat):Int))] ⟨f0,f5,f6,f7,f8,trivial⟩  12 ?_
 simp -implicitDefEqProofs (disch:=omega) only [go_sem,↓reduceIte,reduceCtorEq,rq,decide_false,QaX,QaW,YI,YH,YG,Qf,hk,Nat.lt_irrefl]
 refine ⟨t,w,inn,ag,rfl,⟨hok.1,hok.2.1,hok.2.2.1,fun e=>(by have:=hok.2.2.2 e; rw [hk] at this; exact this.row)⟩,?_⟩
 repeat' (first | exact rfl | refine ⟨rfl,?_⟩)
abbrev tjJ (l:List Pr) (tg:Bool) (frm:Int) (n0:Nat):Nat→Fr→H→Prop:=fun i fr σ=>∃ t w inn ag,PassOk l frm n0 inn ag i 0∧Qh fr 0=.lst 3 (prs l) tg∧Qh fr 5=.sl 0 w 0 1 inn.length none∧Qh fr 6=.bool ag∧Qh fr 7=.int .i64 ((i:Nat):Int)∧σ=⟨t,[some (.arr w 3 (ints inn))]⟩
abbrev tjE (l:List Pr) (tg:Bool) (frm:Int) (n0:Nat):AE→Fr→H→Prop:=fun e fr σ=>∃ t w inn ag,e=.ex 2∧PassOk l frm n0 inn ag l.length 0∧Qh fr 0=.lst 3 (prs l) tg∧Qh fr 5=.sl 0 w 0 1 inn.length none∧Qh fr 6=.bool ag∧σ=⟨t,[some (.arr w 3 (ints inn))]⟩
theorem Qyx (hT:Qn P tab) {l:List Pr} {tg:Bool} {frm:Int} {n0 i:Nat} {p:Pr} (hp:l[i]?=some p) (hl:l.length≤900000) {fr:Fr} {σ:H} (hJ:tjJ l tg frm n0 i fr σ) :
 W P G 76 0 (AC.seq (AC.seq (AC.reg Qic [12, 13, 14])   (AC.cond (Arg.t 15)   AC.skip   (AC.exit 2)))   (AC.seq (AC.block 3 (AC.seq (AC.reg Qib [])   (AC.block 4 (AC.loop (AC.seq (AC.seq (AC.reg QaX [18, 19, 20])   (AC.cond (Arg.t 21)   AC.skip   (AC.exit 4)))   (AC.seq (AC.block 5 (AC.seq (AC.seq (AC.reg QaW [24, 25, 26, 27, 28, 29, 30, 31, 32, 33, 34, 35, 36, 37, 38, 39, 40, 41, 42, 43, 44, 45, 46, 47, 48, 49, 50, 51, 52, 53, 54, 55, 56, 57, 58, 59, 60, 61, 62, 63, 64, 65])   (AC.cond (Arg.t 66)   (AC.exit 5)   AC.skip))   (AC.seq (AC.reg YI [67, 68, 69, 70, 71, 72, 73, 74])   (AC.reg YH []))))   (AC.reg YG [22, 23])))))))   (AC.reg Qd5 [16, 17]))) fr σ (Qaw (fun fr σ => ∃ fr' σ', Shift G 76 0 fr σ fr' σ' ∧ tjJ l tg frm n0 (i + 1) fr' σ') (tjE l tg frm n0)) := by
 obtain ⟨t,w,inn,ag,hok,f0,f5,f6,f7,rfl⟩:=hJ
 have hi:=(List.getElem?_eq_some_iff.1 hp).1
 have e1:=Zg hi (by omega)
 refine Qj [(0,.lst 3 (prs l) tg),(5,.sl 0 w 0 1 inn.length none),(6,.bool ag),(7,.int .i64 ((i:Nat):Int))] ⟨f0,f5,f6,f7,trivial⟩  20 ?_
 simp -implicitDefEqProofs (disch:=omega) only [go_sem,↓reduceIte,reduceCtorEq,rq,decide_true,Qic,Qib,QaX,QaW,YI,YH,YG,Qd5,Qf,hi]
 refine XU l (tiJ l tg frm n0 i) (tiE l tg frm n0 i) ⟨t,w,inn,ag,hok,?_⟩ (fun k q hq fr σ hJ=>Qyy hT hp hq hl hJ) (fun k hk fr σ hJ=>QFG hT hk hJ) (fun e fr σ hE=>?_)
 ·refine ye ?_
  try simp
 ·obtain ⟨t,w,inn,ag,rfl,hok,f0,f5,f6,f7,rfl⟩:=hE
  refine Qmi [(0,.lst 3 (prs l) tg),(5,.sl 0 w 0 1 inn.length none),(6,.bool ag),(7,.int .i64 ((i:Nat):Int))] ⟨f0,f5,f6,f7,trivial⟩  12 ?_
  simp -implicitDefEqProofs (disch:=omega) only [go_sem,↓reduceIte,reduceCtorEq,rq,e1]
  refine ⟨_,_,Shift.refl _ _ _ _,t,w,inn,ag,hok,?_⟩
  exact yb
theorem QFF (_hT:Qn P tab) {l:List Pr} {tg:Bool} {frm:Int} {n0 i:Nat} (hi:i=l.length) {fr:Fr} {σ:H} (hJ:tjJ l tg frm n0 i fr σ) :
 W P G 76 0 (AC.seq (AC.seq (AC.reg Qic [12,13,14])   (AC.cond (Arg.t 15)   AC.skip   (AC.exit 2)))   (AC.seq (AC.block 3 (AC.seq (AC.reg Qib [])   (AC.block 4 (AC.loop (AC.seq (AC.seq (AC.reg QaX [18,19,20])   (AC.cond (Arg.t 21)   AC.skip   (AC.exit 4)))   (AC.seq (AC.block 5 (AC.seq (AC.seq (AC.reg QaW [24,25,26,27,28,29,30,31,32,33,34,35,36,37,38,39,40,41,42,43,44,45,46,47,48,49,50,51,52,53,54,55,56,57,58,59,60,61,62,63,64,65])   (AC.cond (Arg.t 66)   (AC.exit 5)   AC.skip))   (AC.seq (AC.reg YI [67,68,69,70,71,72,73,74])   (AC.reg YH []))))   (AC.reg YG [22,23])))))))   (AC.reg Qd5 [16,17]))) fr σ (Qaw (fun _ _=>False) (tjE l tg frm n0)):=by
 obtain ⟨t,w,inn,ag,hok,f0,f5,f6,f7,rfl⟩:=hJ
 refine Qj [(0,.lst 3 (prs l) tg),(5,.sl 0 w 0 1 inn.length none),(6,.bool ag),(7,.int .i64 ((i:Nat):Int))] ⟨f0,f5,f6,f7,trivial⟩  12 ?_
 simp -implicitDefEqProofs (disch:=omega) only [go_sem,↓reduceIte,reduceCtorEq,rq,decide_false,Qic,Qib,QaX,QaW,YI,YH,YG,Qd5,Qf,hi,Nat.lt_irrefl]
 refine ⟨t,w,inn,ag,rfl,hi▸hok,?_⟩
 repeat' (first | exact rfl | refine ⟨rfl,?_⟩)
abbrev tkJ (l:List Pr) (tg:Bool) (frm:Int):Nat→Fr→H→Prop:=fun m fr σ=>∃ t w inn ag,m=2 * (l.length+1 - inn.length)+(if ag then 1 else 0)∧TI l frm inn∧(ag=false→TiedOk l frm inn)∧Qh fr 0=.lst 3 (prs l) tg∧Qh fr 5=.sl 0 w 0 1 inn.length none∧Qh fr 6=.bool ag∧σ=⟨t,[some (.arr w 3 (ints inn))]⟩
abbrev tkE (l:List Pr) (frm:Int):AE→Fr→H→Prop:=fun e fr σ=>∃ t w inn,e=.ex 0∧TI l frm inn∧TiedOk l frm inn∧Qh fr 5=.sl 0 w 0 1 inn.length none∧σ=⟨t,[some (.arr w 3 (ints inn))]⟩
theorem Qyw (hT:Qn P tab) {l:List Pr} {tg:Bool} {frm:Int} (hl:l.length≤900000) {m:Nat} {fr:Fr} {σ:H} (hJ:tkJ l tg frm m fr σ) :
 W P G 76 0 (AC.seq (AC.seq (AC.reg Qqb [])   (AC.cond (Arg.t 11)   AC.skip   (AC.exit 0)))   (AC.block 1 (AC.seq (AC.reg Qqa [])   (AC.seq (AC.reg Qp9 [])   (AC.block 2 (AC.loop (AC.seq (AC.seq (AC.reg Qic [12, 13, 14])   (AC.cond (Arg.t 15)   AC.skip   (AC.exit 2)))   (AC.seq (AC.block 3 (AC.seq (AC.reg Qib [])   (AC.block 4 (AC.loop (AC.seq (AC.seq (AC.reg QaX [18, 19, 20])   (AC.cond (Arg.t 21)   AC.skip   (AC.exit 4)))   (AC.seq (AC.block 5 (AC.seq (AC.seq (AC.reg QaW [24, 25, 26, 27, 28, 29, 30, 31, 32, 33, 34, 35, 36, 37, 38, 39, 40, 41, 42, 43, 44, 45, 46, 47, 48, 49, 50, 51, 52, 53, 54, 55, 56, 57, 58, 59, 60, 61, 62, 63, 64, 65])   (AC.cond (Arg.t 66)   (AC.exit 5)   AC.skip))   (AC.seq (AC.reg YI [67, 68, 69, 70, 71, 72, 73, 74])   (AC.reg YH []))))   (AC.reg YG [22, 23])))))))   (AC.reg Qd5 [16, 17]))))))))) fr σ (Qaw (fun fr σ => ∃ m' fr' σ', m' < m ∧ Shift G 76 0 fr σ fr' σ' ∧ tkJ l tg frm m' fr' σ') (tkE l frm)) := by
 obtain ⟨t,w,inn,ag,rfl,hti,hcl,f0,f5,f6,rfl⟩:=hJ
 cases ag with
 | false =>
   refine Qj [(0,.lst 3 (prs l) tg),(5,.sl 0 w 0 1 inn.length none),(6,.bool false)] ⟨f0,f5,f6,trivial⟩  12 ?_
   refine yH ?_
   refine ⟨t,w,inn,rfl,hti,hcl rfl,?_⟩
   repeat' (first | exact rfl | refine ⟨rfl,?_⟩)
 | true =>
   refine Qj [(0,.lst 3 (prs l) tg),(5,.sl 0 w 0 1 inn.length none),(6,.bool true)] ⟨f0,f5,f6,trivial⟩  20 ?_
   refine yH ?_
   refine XU l (tjJ l tg frm inn.length) (tjE l tg frm inn.length) ⟨t,w,inn,false,⟨hti,lR _,(fun e=>by cases e),fun _=>CLto.zero l inn⟩,?_⟩ (fun k q hq fr σ hJ=>Qyx hT hq hl hJ) (fun k hk fr σ hJ=>QFF hT hk hJ) (fun e fr σ hE=>?_)
   ·refine ye ?_
    try simp
   ·obtain ⟨t,w,inn2,ag,rfl,hok,f0,f5,f6,rfl⟩:=hE
    have hlen:=hok.1.len
    have hlen0:=hti.len
    have hle:=hok.2.1
    have hlt:=hok.2.2.1
    have hm:2 * (l.length+1 - inn2.length)+(if ag then 1 else 0)<2 * (l.length+1 - inn.length)+1:=by
     cases ag with
     | false=>simp; omega
     | true=>have:=hlt rfl; simp; omega
    exact (show ∃ m' fr' σ', m' < 2 * (l.length + 1 - inn.length) + 1 ∧ Shift G 76 0 fr _ fr' σ' ∧ tkJ l tg frm m' fr' σ' from ⟨_, fr, _, hm, Shift.refl _ _ _ _, t, w, inn2, ag, rfl, hok.1, fun e => (hok.2.2.2 e).all hok.1, f0, f5, f6, rfl⟩)
theorem c_Tied (hT:Qn P tab) (l:List Pr) (tg:Bool) (frm:Int) (hl:l.length≤900000):Am.Pure P G Qa5 [.lst 3 (prs l) tg,.int .i64 frm] fun u=>∃ inn,TiedOk l frm inn∧TI l frm inn∧u=.lst 1 (ints inn) false:=by
 intro t
 refine Qz3 (Q:=fun u _=>Qe u=true∧∃ inn,TiedOk l frm inn∧TI l frm inn∧u=.lst 1 (ints inn) false) (Qge (Q:=fun u σ=>∃ w inn,TiedOk l frm inn∧TI l frm inn∧u=.sl 0 w 0 1 inn.length none∧σ.o[0]?=some (some (.arr w 3 (ints inn)))) ?_ fun u σ hu=>?_) fun u σ hu=>⟨u,.refl _,hu⟩
 rotate_left
 ·obtain ⟨w,inn,h1,h2,rfl,h3⟩:=hu
  have hz:=QwX (_sz:=1) (k:=0) (w:=w) (Qux inn)
  rw [Qo] at hz
  refine .inr ⟨0,w,3,_,zL _,h3,Qsl _,?_,inn,h1,h2,hz⟩
  rw [hz]; simp [Qe]
 refine Q6 hT Qa0 (by simp [Xs]) (Qq 20 ?_)
 simp -implicitDefEqProofs (disch:=omega) only [go_sem,↓reduceIte,reduceCtorEq,rq,zA,lR,Xs,QCh,QCg,QCf,Qqb,Qqa,Qp9,Qic,Qib,QaX,QaW,YI,YH,YG,Qd5,QvB,and_true,cA,nA,lC,lN]
 refine QcQ (tkJ l tg frm) (tkE l frm) (m0:=2 * (l.length+1 - 1)+1) ⟨t+1,t,[frm],true,rfl,TI.start l frm,(fun e=>by cases e),?_⟩ (fun m fr σ hJ=>Qyw hT hl hJ) (fun e fr σ hE=>?_)
 ·simp -implicitDefEqProofs (disch:=omega) only [go_sem,↓reduceIte,reduceCtorEq,rq,zA,true_and,lC,lN]
  try simp [ints]
 ·obtain ⟨t2,w,inn,rfl,hti,hok,f5,rfl⟩:=hE
  refine QU [(5,.sl 0 w 0 1 inn.length none)] ⟨f5,trivial⟩ 12 ?_
  simp -implicitDefEqProofs (disch:=omega) only [go_sem,↓reduceIte,rq,List.getElem?_cons_zero]
  exact ⟨w,inn,hok,hti,rfl,rfl⟩
def wV (vs:List Int) (lk:Int) (rs ss:List Int) (sure:Bool):List V:=.lst 1 (ints vs) false::.int .i64 lk::(ints rs++[.lst 1 (ints ss) false,.bool sure])
theorem Qys (vs:List Int) (lk:Int) (rs ss:List Int) (sure:Bool):Qc (wV vs lk rs ss sure)=true:=by simp [wV,Qc,Qe,Qsl,Qkr]
def hW (vs:List Int) (lk v:Int):Int:=if v<0 then lk else vs.getD v.toNat 0
theorem QoU (rs ss:List Int) (sure:Bool):ones (ints rs++[V.lst 1 (ints ss) false,V.bool sure])=True:=eq_true (by
 intro u hu
 rcases List.mem_append.1 hu with hu | hu
 ·unfold ints at hu; obtain ⟨r,_,rfl⟩:=List.mem_map.1 hu; rfl
 ·simp at hu; rcases hu with rfl | rfl <;> rfl)
theorem QmK {ss:List Int} {n:Nat} (hn:n<ss.length):(ints ss).getD n V.any=.int .i64 (ss.getD n 0):=by
 rw [List.getD_eq_getElem?_getD]; simp [ints,hn]
theorem Qxr (hT:Qn P tab) (vs:List Int) (lk:Int) (rs ss:List Int) (sure:Bool) (hr:rs.length=32) {v:Int} (_h0:-1≤v) (hv:v<vs.length):Am.Pure P G Qa6 [.agg (wV vs lk rs ss sure),.int .i64 v] fun u=>u=.int .i64 (hW vs lk v):=by
 refine fun t=>Xt 0 (zL _) (Q6 hT QV (by simp [Xb]) ?_)
 have ho:=QoU rs ss sure
 simp only [wV]
 by_cases h:v<0
 ·have e:hW vs lk v=lk:=by simp [hW,h]
  rw [e]
  refine Qq 30 ?_
  simp -implicitDefEqProofs (disch:=omega) only [go_sem,↓reduceIte,reduceCtorEq,rA,rq,rL,zA,decide_true,zL,Xb,QDF,QDE,QDD,QDC,Qo,true_implies,and_true,nA,lA,lC,lN,List.getElem?_cons_zero,List.getD_cons_zero,List.getD_cons_succ,h,hr,ho]
 ·have e:hW vs lk v=vs.getD v.toNat 0:=by simp [hW,h]
  rw [e]
  have g:=QmK (ss:=vs) (n:=v.toNat) (by omega)
  have hv1:v.toNat<vs.length:=by omega
  have hv2:0≤v:=by omega
  refine Qq 10 ?_
  simp -implicitDefEqProofs (disch:=omega) only [go_sem,↓reduceIte,reduceCtorEq,rq,zA,decide_false,Xb,QDF,QDE,QDD,QDC,and_true,nA,lN,h,ho]
  iterate 8 (try (refine Qa 3 ?_; simp -implicitDefEqProofs (disch:=omega) only [go_sem,↓reduceIte,reduceCtorEq,rA,rq,rL,zA,aZ,lR,zL,Qo,true_implies,and_true,lA,lC,lN,List.getElem?_cons_zero,List.getD_cons_zero,hr,g,hv1,hv2]))
theorem QyO {rs:List Int} {n:Int} (h0:0≤n) (hn:n<rs.length) (tl:List V):(ints rs++tl).getD n.toNat V.any=.int .i64 (rs.getD n.toNat 0):=by
 rw [List.getD_eq_getElem?_getD,List.getElem?_append_left (by rw [Qo]; omega),← List.getD_eq_getElem?_getD]
 exact QmK (by omega)
theorem rs_32 {rs:List Int} (hr:rs.length=32) (a:V) (tl:List V):(ints rs++a::tl).getD 32 V.any=a:=by
 rw [List.getD_eq_getElem?_getD,List.getElem?_append_right (by rw [Qo]; omega),Qo,hr]; rfl
theorem ints_at {ss:List Int} {n:Int} (h0:0≤n) (hn:n<ss.length):(ints ss).getD n.toNat V.any=.int .i64 (ss.getD n.toNat 0):=by
 have:=QyO h0 hn []
 rwa [List.append_nil] at this
theorem k_at (hT:Qn P tab) {gp:V} {t:Nat} {o:List (Option Ob)} (vs:List Int) (lk:Int) (rs ss:List Int) (sure:Bool) (hr:rs.length=32) {k n x:Int} (h:k=1∧0≤n∧n<32∧rs.getD n.toNat 0=x∨k=2∧0≤n∧n<ss.length∧ss.getD n.toNat 0=x) :
 C P G 0 Qce [gp, .agg (wV vs lk rs ss sure), .int .u8 k, .int .i64 n] ⟨t, o⟩ fun u σ => u = .int .i64 x ∧ ∃ t', t ≤ t' ∧ σ = ⟨t', o⟩ := by
 refine Xt o.length (zL _) (Q6 hT Qb4 (by simp [Xp]) ?_)
 simp only [wV]
 have ho:=QoU rs ss sure
 rcases h with ⟨rfl,h0,h1,rfl⟩ | ⟨rfl,h0,h1,rfl⟩
 ·have g:∀ (a b:V) tl,(a::b::(ints rs++tl)).getD (2+n.toNat) V.any=.int .i64 (rs.getD n.toNat 0):=fun a b tl=>by
   rw [Nat.add_comm]; exact QyO (rs:=rs) h0 (by omega) tl
  refine Qq 30 ?_
  simp -implicitDefEqProofs (disch:=omega) only [go_sem,Qd,↓reduceIte,reduceCtorEq,rA,rq,rL,zA,aZ,Nat.mul_one,beq_self_eq_true,Xp,QDM,QDL,QDK,QDJ,QDI,QDH,QDG,Qo,true_implies,true_and,and_true,lA,lC,lN,hr,g,ho,List.getElem?_concat_length]
  try simp
 ·have g:=ints_at h0 h1
  have g2:∀ (a b c:V) tl,(a::b::(ints rs++c::tl)).getD 34 V.any=c:=fun a b c tl=>rs_32 hr c tl
  refine Qq 40 ?_
  simp -implicitDefEqProofs (disch:=omega) only [go_sem,Qd,↓reduceIte,reduceCtorEq,rA,rq,rL,zA,lR,beq_self_eq_true,Xp,QDM,QDL,QDK,QDJ,QDI,QDH,QDG,Qo,true_implies,true_and,and_true,Int.reduceBEq,lA,lC,lN,List.getD_cons_zero,hr,g,g2,ho,List.getElem?_concat_length]
  try simp
theorem QtJ {inn:List Int} {k:Nat} {y z:Int} (hk:inn[k]?=some y):decide (z∈inn.take (k+1))=(decide (z∈inn.take k) || (y==z)):=by
 rw [Qz hk,Bool.eq_iff_iff]
 simp only [decide_eq_true_eq,Bool.or_eq_true,beq_iff_eq,List.mem_append,List.mem_singleton]
 exact or_congr Iff.rfl eq_comm
abbrev h1J (v0:Nat) (ps:List Pr) (tg:Bool) (vars nx bh x:Int) (wv:List V) (inn:List Int) (num:Bool) (i:Nat) (z:Int) (σ0:Am.H):Nat→Fr→H→Prop:=fun k fr σ=>∃ b,b=decide (z∈inn.take k)∧Qh fr 0=.ptr 1 v0 0∧Qh fr 2=.lst 3 (prs ps) tg∧Qh fr 4=.int .i64 vars∧Qh fr 5=.int .i64 nx∧Qh fr 6=.int .i64 bh∧Qh fr 8=.ref (.agg wv) 0∧Qh fr 15=.lst 1 (ints inn) false∧Qh fr 16=.int .i64 x∧Qh fr 17=.bool num∧Qh fr 18=.int .i64 ((i:Nat):Int)∧Qh fr 19=.bool b∧Qh fr 20=.int .i64 ((k:Nat):Int)∧σ=σ0
abbrev h1E (v0:Nat) (ps:List Pr) (tg:Bool) (vars nx bh x:Int) (wv:List V) (inn:List Int) (num:Bool) (i:Nat) (z:Int) (σ0:Am.H):AE→Fr→H→Prop:=fun e fr σ=>∃ b,e=.ex 2∧b=decide (z∈inn)∧Qh fr 0=.ptr 1 v0 0∧Qh fr 2=.lst 3 (prs ps) tg∧Qh fr 4=.int .i64 vars∧Qh fr 5=.int .i64 nx∧Qh fr 6=.int .i64 bh∧Qh fr 8=.ref (.agg wv) 0∧Qh fr 15=.lst 1 (ints inn) false∧Qh fr 16=.int .i64 x∧Qh fr 17=.bool num∧Qh fr 18=.int .i64 ((i:Nat):Int)∧Qh fr 19=.bool b∧σ=σ0
theorem Qzf (_hT:Qn P tab) {v0:Nat} {ps:List Pr} {tg:Bool} {vars nx bh x:Int} {wv:List V} {inn:List Int} {num:Bool} {i k:Nat} {p:Pr} {y:Int} {σ0:Am.H} (hp:ps[i]?=some p) (hk:inn[k]?=some y) (hl:inn.length≤1000000) {fr:Fr} {σ:Am.H} (hJ:h1J v0 ps tg vars nx bh x wv inn num i p.v σ0 k fr σ) :
 W P G 174 0 (AC.seq (AC.seq (AC.reg Qi3 [38, 39, 40])   (AC.cond (Arg.t 41)   AC.skip   (AC.exit 2)))   (AC.seq (AC.block 3 (AC.reg Qi2 [44, 45, 46, 47, 48, 49, 50, 51, 52, 53, 54, 55, 56]))   (AC.reg Qdr [42, 43]))) fr σ (Qaw (fun fr σ => ∃ fr' σ', Shift G 174 0 fr σ fr' σ' ∧ h1J v0 ps tg vars nx bh x wv inn num i p.v σ0 (k + 1) fr' σ') (h1E v0 ps tg vars nx bh x wv inn num i p.v σ0)) := by
 obtain ⟨b,hb,f0,f2,f4,f5,f6,f8,f15,f16,f17,f18,f19,f20,rfl⟩:=hJ
 have hi:=(List.getElem?_eq_some_iff.1 hp).1
 have hkl:=(List.getElem?_eq_some_iff.1 hk).1
 have hD:=Qc7 hp
 have hDk:=QlP hk
 have e2:=Zg hkl (by omega)
 simp only [prV,prC] at hD
 have hst:=QtJ (z:=p.v) hk
 rw [← hb] at hst
 cases b with
 | true =>
   refine Qj [(0,.ptr 1 v0 0),(2,.lst 3 (prs ps) tg),(4,.int .i64 vars),(5,.int .i64 nx),(6,.int .i64 bh),(8,.ref (.agg wv) 0),(15,.lst 1 (ints inn) false),(16,.int .i64 x),(17,.bool num),(18,.int .i64 ((i:Nat):Int)),(19,.bool true),(20,.int .i64 ((k:Nat):Int))] ⟨f0,f2,f4,f5,f6,f8,f15,f16,f17,f18,f19,f20,trivial⟩  12 ?_
   simp -implicitDefEqProofs (disch:=omega) only [go_sem,↓reduceIte,reduceCtorEq,rq,decide_true,Qi3,Qi2,Qdr,Qo,hkl]
   iterate 12 (try (refine Qa 4 ?_; simp -implicitDefEqProofs (disch:=omega) only [go_sem,↓reduceIte,reduceCtorEq,rq,e2]))
   refine ⟨_,_,Shift.refl _ _ _ _,true,?_,?_⟩
   ·rw [hst]; rfl
   ·exact yb
 | false =>
   rw [Bool.false_or] at hst
   refine Qj [(0,.ptr 1 v0 0),(2,.lst 3 (prs ps) tg),(4,.int .i64 vars),(5,.int .i64 nx),(6,.int .i64 bh),(8,.ref (.agg wv) 0),(15,.lst 1 (ints inn) false),(16,.int .i64 x),(17,.bool num),(18,.int .i64 ((i:Nat):Int)),(19,.bool false),(20,.int .i64 ((k:Nat):Int))] ⟨f0,f2,f4,f5,f6,f8,f15,f16,f17,f18,f19,f20,trivial⟩  12 ?_
   simp -implicitDefEqProofs (disch:=omega) only [go_sem,↓reduceIte,reduceCtorEq,rq,decide_true,Qi3,Qi2,Qdr,Qo,hkl]
   iterate 12 (try (refine Qa 4 ?_; simp -implicitDefEqProofs (disch:=omega) only [go_sem,Qd,↓reduceIte,reduceCtorEq,rA,rq,rL,zA,aZ,lR,Qo,Qf,true_implies,and_true,lC,lN,List.getD_cons_zero,hi,hkl,hD,hDk,e2]))
   refine ⟨_,_,Shift.refl _ _ _ _,(y==p.v),hst.symm,?_⟩
   exact yb
theorem QGr (_hT:Qn P tab) {v0:Nat} {ps:List Pr} {tg:Bool} {vars nx bh x:Int} {wv:List V} {inn:List Int} {num:Bool} {i k:Nat} {z:Int} {σ0:Am.H} (hk:k=inn.length) {fr:Fr} {σ:Am.H} (hJ:h1J v0 ps tg vars nx bh x wv inn num i z σ0 k fr σ) :
 W P G 174 0 (AC.seq (AC.seq (AC.reg Qi3 [38,39,40])   (AC.cond (Arg.t 41)   AC.skip   (AC.exit 2)))   (AC.seq (AC.block 3 (AC.reg Qi2 [44,45,46,47,48,49,50,51,52,53,54,55,56]))   (AC.reg Qdr [42,43]))) fr σ (Qaw (fun _ _=>False) (h1E v0 ps tg vars nx bh x wv inn num i z σ0)):=by
 obtain ⟨b,hb,f0,f2,f4,f5,f6,f8,f15,f16,f17,f18,f19,f20,rfl⟩:=hJ
 rw [hk,List.take_length] at hb
 refine Qj [(0,.ptr 1 v0 0),(2,.lst 3 (prs ps) tg),(4,.int .i64 vars),(5,.int .i64 nx),(6,.int .i64 bh),(8,.ref (.agg wv) 0),(15,.lst 1 (ints inn) false),(16,.int .i64 x),(17,.bool num),(18,.int .i64 ((i:Nat):Int)),(19,.bool b),(20,.int .i64 ((k:Nat):Int))] ⟨f0,f2,f4,f5,f6,f8,f15,f16,f17,f18,f19,f20,trivial⟩  12 ?_
 simp -implicitDefEqProofs (disch:=omega) only [go_sem,↓reduceIte,reduceCtorEq,rq,decide_false,Qi3,Qi2,Qdr,Qo,hk,Nat.lt_irrefl]
 refine ⟨b,rfl,hb,?_⟩
 repeat' (first | exact rfl | refine ⟨rfl,?_⟩)
abbrev h3J (vars x:Int) (wv:List V) (inn:List Int) (num:Bool) (u:Int) (σ0:Am.H):Nat→Fr→H→Prop:=fun k fr σ=>∃ b,b=decide (u∈inn.take k)∧Qh fr 4=.int .i64 vars∧Qh fr 8=.ref (.agg wv) 0∧Qh fr 15=.lst 1 (ints inn) false∧Qh fr 16=.int .i64 x∧Qh fr 17=.bool num∧Qh fr 23=.int .i64 u∧Qh fr 24=.bool b∧Qh fr 25=.int .i64 ((k:Nat):Int)∧σ=σ0
abbrev h3E (vars x:Int) (wv:List V) (inn:List Int) (num:Bool) (u:Int) (σ0:Am.H):AE→Fr→H→Prop:=fun e fr σ=>∃ b,e=.ex 6∧b=decide (u∈inn)∧Qh fr 4=.int .i64 vars∧Qh fr 8=.ref (.agg wv) 0∧Qh fr 15=.lst 1 (ints inn) false∧Qh fr 16=.int .i64 x∧Qh fr 17=.bool num∧Qh fr 23=.int .i64 u∧Qh fr 24=.bool b∧σ=σ0
theorem Qzd (_hT:Qn P tab) {vars x u:Int} {wv:List V} {inn:List Int} {num:Bool} {k:Nat} {y:Int} {σ0:Am.H} (hk:inn[k]?=some y) (hl:inn.length≤1000000) {fr:Fr} {σ:Am.H} (hJ:h3J vars x wv inn num u σ0 k fr σ) :
 W P G 174 0 (AC.seq (AC.seq (AC.reg Qb2 [150, 151, 152])   (AC.cond (Arg.t 153)   AC.skip   (AC.exit 6)))   (AC.seq (AC.block 7 (AC.reg Qb1 [156, 157, 158, 159, 160, 161, 162, 163, 164]))   (AC.reg Qb0 [154, 155]))) fr σ (Qaw (fun fr σ => ∃ fr' σ', Shift G 174 0 fr σ fr' σ' ∧ h3J vars x wv inn num u σ0 (k + 1) fr' σ') (h3E vars x wv inn num u σ0)) := by
 obtain ⟨b,hb,f4,f8,f15,f16,f17,f23,f24,f25,rfl⟩:=hJ
 have hkl:=(List.getElem?_eq_some_iff.1 hk).1
 have hDk:=QlP hk
 have e2:=Zg hkl (by omega)
 have hst:=QtJ (z:=u) hk
 rw [← hb] at hst
 cases b with
 | true =>
   refine Qj [(4,.int .i64 vars),(8,.ref (.agg wv) 0),(15,.lst 1 (ints inn) false),(16,.int .i64 x),(17,.bool num),(23,.int .i64 u),(24,.bool true),(25,.int .i64 ((k:Nat):Int))] ⟨f4,f8,f15,f16,f17,f23,f24,f25,trivial⟩  12 ?_
   simp -implicitDefEqProofs (disch:=omega) only [go_sem,↓reduceIte,rq,decide_true,Qb2,Qb1,Qb0,Qo,hkl]
   iterate 12 (try (refine Qa 4 ?_; simp -implicitDefEqProofs (disch:=omega) only [go_sem,↓reduceIte,rq,e2]))
   refine ⟨_,_,Shift.refl _ _ _ _,true,?_,?_⟩
   ·rw [hst]; rfl
   ·exact yb
 | false =>
   rw [Bool.false_or] at hst
   refine Qj [(4,.int .i64 vars),(8,.ref (.agg wv) 0),(15,.lst 1 (ints inn) false),(16,.int .i64 x),(17,.bool num),(23,.int .i64 u),(24,.bool false),(25,.int .i64 ((k:Nat):Int))] ⟨f4,f8,f15,f16,f17,f23,f24,f25,trivial⟩  12 ?_
   simp -implicitDefEqProofs (disch:=omega) only [go_sem,↓reduceIte,rq,decide_true,Qb2,Qb1,Qb0,Qo,hkl]
   iterate 12 (try (refine Qa 4 ?_; simp -implicitDefEqProofs (disch:=omega) only [go_sem,Qd,↓reduceIte,rA,rq,zA,lR,Qo,true_implies,and_true,lC,lN,List.getD_cons_zero,hkl,hDk,e2]))
   refine ⟨_,_,Shift.refl _ _ _ _,(y==u),hst.symm,?_⟩
   exact yb
theorem QGp (_hT:Qn P tab) {vars x u:Int} {wv:List V} {inn:List Int} {num:Bool} {k:Nat} {σ0:Am.H} (hk:k=inn.length) {fr:Fr} {σ:Am.H} (hJ:h3J vars x wv inn num u σ0 k fr σ) :
 W P G 174 0 (AC.seq (AC.seq (AC.reg Qb2 [150,151,152])   (AC.cond (Arg.t 153)   AC.skip   (AC.exit 6)))   (AC.seq (AC.block 7 (AC.reg Qb1 [156,157,158,159,160,161,162,163,164]))   (AC.reg Qb0 [154,155]))) fr σ (Qaw (fun _ _=>False) (h3E vars x wv inn num u σ0)):=by
 obtain ⟨b,hb,f4,f8,f15,f16,f17,f23,f24,f25,rfl⟩:=hJ
 rw [hk,List.take_length] at hb
 refine Qj [(4,.int .i64 vars),(8,.ref (.agg wv) 0),(15,.lst 1 (ints inn) false),(16,.int .i64 x),(17,.bool num),(23,.int .i64 u),(24,.bool b),(25,.int .i64 ((k:Nat):Int))] ⟨f4,f8,f15,f16,f17,f23,f24,f25,trivial⟩  12 ?_
 simp -implicitDefEqProofs (disch:=omega) only [go_sem,↓reduceIte,rq,decide_false,Qb2,Qb1,Qb0,Qo,hk,Nat.lt_irrefl]
 refine ⟨b,rfl,hb,?_⟩
 repeat' (first | exact rfl | refine ⟨rfl,?_⟩)
end Go.Proofs.YtfgccihafnjalaaGreatDoor
