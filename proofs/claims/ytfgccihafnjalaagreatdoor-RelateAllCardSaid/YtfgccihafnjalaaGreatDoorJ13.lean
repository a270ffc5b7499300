/- The library's sort at pairs. -/
import Derived.Test.YtfgccihafnjalaaGreatDoorJ12
import Derived.Test.YtfgccihafnjalaaGreatDoorJ5
import Derived.Shelf.SlSortCmp.WholeK
import Derived.Test.YtfgccihafnjalaaGreatDoorShP
import Derived.Test.YtfgccihafnjalaaGreatDoorJ7
import Derived.Test.YtfgccihafnjalaaGreatDoorSeat
import Derived.Test.YtfgccihafnjalaaGreatDoorJ11
import Derived.Test.YtfgccihafnjalaaGreatDoorJ6
import Derived.Test.YtfgccihafnjalaaGreatDoorY
open Nat renaming reduceEqDiff → rq, reduceAdd → rA, reduceLeDiff → rL, reduceLT → rT, zero_add → zA, le_refl → lR, zero_le → zL, add_zero → aZ
open List renaming length_cons → lC, length_nil → lN, take_succ_cons → tS, length_append → lA, nil_append → nA, cons_append → cA, append_assoc → aA, take_nil → tN, take_zero → tZ, length_map → lM
open Bool renaming not_false → nF, not_true → nT
namespace Go.Proofs.YtfgccihafnjalaaGreatDoor
open Go Go.Am Go.Sort Go.Re
set_option maxRecDepth 100000
variable {G:Nat→Option V}
theorem flat_get {α:Type} [Inhabited α] (enc:α→List Value) (k:Nat) (hk:∀ x,(enc x).length=k):∀ (l:List α) (t:Nat),t<l.length * k→(l.flatMap enc)[t]?=some ((enc l[t / k]!)[t % k]!)
 | [],t,h=>by simp at h
 | x::l,t,h=>by
   have k0:0<k:=by rcases Nat.eq_zero_or_pos k with e | e; · subst e; simp at h
                   ·exact e
   rw [List.flatMap_cons]
   rcases Nat.lt_or_ge t k with h1 | h1
   ·rw [List.getElem?_append_left (by rw [hk]; exact h1),Nat.div_eq_of_lt h1,Nat.mod_eq_of_lt h1]
    have:t<(enc x).length:=by rw [hk]; exact h1
    simp [this]
   ·rw [List.getElem?_append_right (by rw [hk]; exact h1),hk]
    have ih:=flat_get enc k hk l (t - k) (by rw [lC,Nat.succ_mul] at h; omega)
    rw [ih]
    have e1:t / k=(t - k) / k+1:=by rw [← Nat.sub_add_cancel h1]; simp [k0]
    have e2:t % k=(t - k) % k:=by conv=>lhs; rw [← Nat.sub_add_cancel h1]; 
                                  simp
    rw [e1,e2]
    simp
theorem QII {α:Type} [Inhabited α] (enc:α→List Value) (k:Nat) (hk:∀ x,(enc x).length=k) (l:List α):(l.flatMap enc).toArray=flatK enc k l.toArray:=by
 have hlen:(l.flatMap enc).length=l.length * k:=by
  induction l with
  | nil=>simp
  | cons x l ih=>rw [List.flatMap_cons,lA,hk,ih,lC,Nat.succ_mul]; omega
 refine ext_get! (by simp [hlen]) fun t ht=>?_
 have ht':t<l.length * k:=by simpa [hlen] using ht
 rw [get_flatK enc k _ t (by simpa using ht')]
 have:=flat_get enc k hk l t ht'
 simp [this]
def prK (p:Pr):List (IntKind × Int):=[(.i64,p.v),(.u8,p.k),(.i64,p.n)]
def prE (p:Pr):List Value:=[.int .i64 p.v,.int .u8 p.k,.int .i64 p.n]
theorem prK_C (l:List Pr):(l.flatMap prK).map cI=fl prC l:=by
 induction l with
 | nil=>rfl
 | cons x l ih=>rw [List.flatMap_cons,List.map_append,ih]; rfl
theorem prK_E (l:List Pr):(l.flatMap prK).map vI=l.flatMap prE:=by
 induction l with
 | nil=>rfl
 | cons x l ih=>rw [List.flatMap_cons,List.map_append,ih]; rfl
theorem QsX (l:List Pr):(l.flatMap prK).length=l.length * 3:=by
 induction l with
 | nil=>rfl
 | cons x l ih=>rw [List.flatMap_cons,lA,ih,lC,Nat.succ_mul,Nat.add_comm]; rfl
theorem ltP (x y:Pr):ltOf cfP x y=decide (lt x y):=by
 have key:cfP x y<0↔lt x y:=by
  unfold cfP orI Qwk lt
  repeat' split
  all_goals omega
 unfold ltOf
 exact decide_eq_decide.2 key
theorem swoP:SWO (ltOf cfP) where
 irrefl x:=by rw [ltP]; simpa using QjQ x
 trans x y z h1 h2:=by rw [ltP,decide_eq_true_eq] at *; exact lt_trans h1 h2
 ntrans x y z h1 h2:=by
  rw [ltP,decide_eq_false_iff_not] at *
  unfold lt at *; omega
theorem QxG:Qb0 Tryz.prog G:=fun {base k v t} {o} {l} {n} hn hb ho hl=>by
 subst hn
 by_cases hz:l=[]
 ·subst hz
  refine (QBv (fun p cap w=>AnyF.slices_SortFunc_none Tryz.laysSortP p cap _ w)).conseq fun r σ' hr=>?_
  obtain ⟨rfl,rfl⟩:=hr
  refine ⟨rfl,?_⟩
  have e:fl prC (Qnm [])=fl prC []:=by simp [Qnm]
  obtain ⟨h1,h2⟩:=List.getElem?_eq_some_iff.1 ho
  rw [e,← h2,List.set_getElem_self]
 ·rw [← prK_C] at ho ⊢
  refine QJA (zs':=(Qnm l).flatMap prK) hb ho (QsX l) (List.length_pos_iff.2 hz) (by rw [QsX,QsX,QlN]) fun blk off cap w hH hblk=>?_
  rw [prK_E,QII prE 3 (fun _=>rfl)] at hH ⊢
  have h:=AnyQ.slices_SortFunc_total Tryz.laysSortP 3 (Tryz.isAgg64) (Tryz.sizeOf64) prE (fun _=>rfl) (fun x v hv=>by simp [prE] at hv; rcases hv with rfl | rfl | rfl <;> rfl) cfP swoP 31 #[] blk off cap l.toArray w (enters_of Tryz.func31 (by kernel_rfl) rfl)
   (fun _ _ _ _ x y=>QHG x y _) hH hblk (by simp; omega) (fun x y h1 h2=>by
    rw [ltP,decide_eq_false_iff_not] at h1 h2
    rcases Qmb x y with k | k | k
    ·exact absurd k h1
    ·exact k
    ·exact absurd k h2)
  refine h.mono fun e w' ⟨he,n,os,hw⟩=>⟨he,n,os,?_⟩
  rw [hw]
  have e:(l.mergeSort fun x y=>!ltOf cfP y x)=Qnm l:=by
   unfold Qnm; congr 1; funext x y; rw [ltP]
  rw [show l.toArray.toList=l from rfl,e]
  rfl
end Go.Proofs.YtfgccihafnjalaaGreatDoor
namespace Go.Proofs.YtfgccihafnjalaaGreatDoor
open Go Go.Am
set_option maxRecDepth 100000
def kF:Fmt Tryz.prog G0:={ fmt:=QpG,le:=QAT,int:=fun i h1 h2=>QtG i ⟨h1,h2⟩,itoa:=fun i h1 h2=>c_Itoa i ⟨h1,h2⟩ }
theorem QyT:Works Tryz.prog G0:=QA5 Qjy kF QxG c_fn2
end Go.Proofs.YtfgccihafnjalaaGreatDoor
namespace Go.Proofs.YtfgccihafnjalaaGreatDoor
open Go Go.Am Go.Re Go.Rv
set_option maxRecDepth 100000
section
attribute [local go_sem] zA proofmarklaw25_function QFQ QFP zqe_2 zqe_3 zqe_4 zqe_5 zqe_6 zqe_7 zqe_8
theorem run_W {P:Program} {G:Nat→Option V} {O:Nat→List V→Option V} (hO:Qp6 P G O) {T:Nat→Option AF} (hT:Qh P T) (fuel k:Nat) {n base:Nat} {c:AC} {fr:Fr} {σ:Am.H} {res:List RV} (p:V→Am.H→Bool)
 (h:xC G (xFO G O T fuel k) base fuel c fr σ (fun e fr σ=>match e with
  | .ex _=>false
  | _=>QEL fr σ res fun l=>p (Qd4 l) σ)=true):W P G n base c fr σ (QoH G res fun v σ=>p v σ=true) :=
 (QHA P G (Qxi P G hO hT k) fuel _ _ _ _ h).conseq fun e fr σ he=>by
  cases e with
  | ex id=>cases he
  | nrm=>exact Qip G _ (fun l hl=>hl) he
  | ret=>exact Qip G _ (fun l hl=>hl) he
abbrev fnH:Am.H:=⟨1,[some (.arr 0 39 [.str [],.int .i64 0,.lst 0 [] true,.int .i64 0,.lst 0 [] true])]⟩
def fnB (n:Nat):Bool:=xC G0 (xFO G0 oRv tab 400 60) 0 400 (XJ 2 proofmarklaw25_function.body) [(2,.ptr 0 0 0),(3,.int .i64 ((n:Nat):Int))] fnH (fun e fr σ=>match e with
 | .ex _=>false
 | _=>QEL fr σ proofmarklaw25_function.res fun l=>fnP n (Qd4 l) σ)
theorem c_fnN {s:Int} (h0:0≤s) (h1:s≤255) (hB:∀ n:Nat,n≤4→fnB n=true):Am.Pure Tryz.prog G0 Qr [.int .u8 s] fun v=>v=.agg (fnC (s % 5).toNat):=by
 refine fn_of rfl (Q0 Qjy QG (by simp [proofmarklaw25_function]) ?_)
 show W Tryz.prog G0 37 0 (.seq (.reg QFQ []) (.seq (.reg QFP [7,8,9]) (XJ 2 proofmarklaw25_function.body))) _ _ (QoH G0 proofmarklaw25_function.res _)
 have hW:=fun n hn=>run_W (n:=37) (QEZ Qjy) Qjy 400 60 (fnP n) (hB n hn)
 obtain ⟨T,hT⟩:∃ c,c=XJ 2 proofmarklaw25_function.body:=⟨_,rfl⟩
 rw [← hT] at hW ⊢
 refine Ql 11 ?_
 refine ya ?_
 have hm:IntKind.i64.wrap (s.tmod 5)=(((s % 5).toNat:Nat):Int):=by rw [Int.tmod_eq_emod_of_nonneg h0,QcU (by omega)]; omega
 rw [hm]
 refine Qd3 (Xv [(2,.ptr 0 0 0),(3,.int .i64 (((s % 5).toNat:Nat):Int))] ⟨rfl,rfl,trivial⟩ ?_)
 exact hW _ (by omega)
end
theorem fn_B0:fnB 0=true:=by kernel_rfl
theorem fn_B1:fnB 1=true:=by kernel_rfl
theorem fn_B2:fnB 2=true:=by kernel_rfl
theorem fn_B3:fnB 3=true:=by kernel_rfl
theorem fn_B4:fnB 4=true:=by kernel_rfl
end Go.Proofs.YtfgccihafnjalaaGreatDoor
namespace Go.Proofs.YtfgccihafnjalaaGreatDoor
open Go Go.Am Go.Re Go.Rv
theorem c_fnA {s:Int} (h0:0≤s) (h1:s≤255):Am.Pure Tryz.prog G0 Qr [.int .u8 s] fun v=>v=.agg (fnC (s % 5).toNat) :=
 c_fnN h0 h1 fun n hn=>by
  match n,hn with
  | 0,_=>exact fn_B0
  | 1,_=>exact fn_B1
  | 2,_=>exact fn_B2
  | 3,_=>exact fn_B3
  | 4,_=>exact fn_B4
end Go.Proofs.YtfgccihafnjalaaGreatDoor
namespace Go.Re
structure TI (l:List Pr) (frm:Int) (inn:List Int):Prop where
 has:frm∈inn
 conn:∀ u∈inn,Conn (ties l) (vE frm) (vE u)
 nd:inn.Nodup
 sub:∀ u∈inn,u=frm∨∃ p∈l,p.v=u
theorem TI.start (l:List Pr) (frm:Int):TI l frm [frm]:=⟨by simp,fun u hu=>by rw [List.mem_singleton] at hu; subst hu; exact .refl _,by simp,fun u hu=>.inl (by simpa using hu)⟩
variable {inn:List Int} {l:List Pr}
theorem TI.len {frm:Int} (h:TI l frm inn):inn.length≤l.length+1:=QIu h.nd h.sub
variable {p q:Pr}
theorem TI.add {frm:Int} (h:TI l frm inn) (hp:p∈l) (hq:q∈l) (hk:p.k=q.k) (hn:p.n=q.n) (hi:p.v∈inn) (hno:q.v ∉ inn):TI l frm (inn++[q.v]) where
 has:=List.mem_append_left _ h.has
 conn:=fun u hu=>by
  rcases List.mem_append.1 hu with hu | hu
  ·exact h.conn u hu
  ·rw [List.mem_singleton] at hu; subst hu; exact Qxr hp hq hk hn (h.conn _ hi)
 nd:=by
  rw [List.nodup_append]
  refine ⟨h.nd,by simp,fun a ha b hb e=>?_⟩
  rw [List.mem_singleton] at hb
  subst e hb; exact hno ha
 sub:=fun u hu=>by
  rcases List.mem_append.1 hu with hu | hu
  ·exact h.sub u hu
  ·rw [List.mem_singleton] at hu; exact .inr ⟨q,hq,hu.symm⟩
def CLto (l:List Pr) (inn:List Int) (i k:Nat):Prop:=∀ (a b:Nat) (p q:Pr),l[a]?=some p→l[b]?=some q→(a<i∨a=i∧b<k)→p.k=q.k→p.n=q.n→p.v∈inn→q.v∈inn
theorem CLto.zero (l:List Pr) (inn:List Int):CLto l inn 0 0:=fun a b p q _ _ h=>by omega
variable {i:Nat}
theorem CLto.next {k:Nat} (h:CLto l inn i k) (hp:l[i]?=some p) (hq:l[k]?=some q) (hc:¬ (p.k=q.k∧p.n=q.n∧p.v∈inn∧q.v ∉ inn)):CLto l inn i (k+1):=fun a b p' q' ha hb ho e1 e2 e3=>by
 by_cases hl:a=i∧b=k
 ·obtain ⟨rfl,rfl⟩:=hl
  rw [hp] at ha; rw [hq] at hb; cases ha; cases hb
  exact Classical.byContradiction fun hno=>hc ⟨e1,e2,e3,hno⟩
 ·exact h a b p' q' ha hb (by omega) e1 e2 e3
theorem CLto.row (h:CLto l inn i l.length):CLto l inn (i+1) 0:=fun a b p q ha hb ho=>h a b p q ha hb (by have:=(List.getElem?_eq_some_iff.1 hb).1; omega)
theorem CLto.all {frm:Int} (h:CLto l inn l.length 0) (hT:TI l frm inn):TiedOk l frm inn:=⟨hT.has,hT.conn,fun p hp q hq e1 e2 e3=>by
 obtain ⟨a,ha,rfl⟩:=List.mem_iff_getElem.1 hp
 obtain ⟨b,hb,rfl⟩:=List.mem_iff_getElem.1 hq
 exact h a b _ _ (List.getElem?_eq_getElem ha) (List.getElem?_eq_getElem hb) (.inl ha) e1 e2 e3⟩
end Go.Re
namespace Go.Proofs.YtfgccihafnjalaaGreatDoor
open Go Go.Am Go.Re
set_option maxRecDepth 100000
variable {P:Program} {G:Nat→Option V}
section
attribute [local go_sem] lC lN lR zA zL and_true decide_false decide_true Qz XN QC9 QC8 QC7 QC6 QC5 QC4 QC3 true_and true_implies
def ints (c:List Int):List V:=c.map (V.int .i64)
theorem Qj (c:List Int):(ints c).length=c.length:=by simp [ints]
variable {c:List Int}
theorem Qld {i:Nat} {x:Int} (h:c[i]?=some x):(ints c).getD i V.any=.int .i64 x:=by simp [ints,List.getD_eq_getElem?_getD,h]
theorem QdC:∀ c:List Int,Qb (ints c)=true
 | []=>rfl
 | x::c=>by have:=QdC c; simpa [ints,Qb,Qd] using this
theorem Qyp (c:List Int) (x:Int):ints c++[.int .i64 x]=ints (c++[x]):=by simp [ints]
theorem QoB (c:List Int):∀ u∈ints c,u.cells=[u]:=fun u hu=>by
 unfold ints at hu; obtain ⟨r,_,rfl⟩:=List.mem_map.1 hu; rfl
theorem seen_ints {o:List (Option Ob)} {k w T n:Nat} (h:o[k]?=some (some (.arr w T (ints c)))) (hn:n=c.length):Seen o (.sl k w 0 1 n none) (.lst 1 (ints c) false):=by
 subst hn
 have:=Seen.row (o:=o) k w 0 1 none T (ints c) (ints c) h (fun j u hj=>by
  simp only [ints,List.getElem?_map,Option.map_eq_some_iff] at hj
  obtain ⟨y,hy,rfl⟩:=hj
  refine ⟨rfl,fun i d hd=>?_⟩
  have hi:i=0:=by have:=(List.getElem?_eq_some_iff.1 hd).1; simp [V.cells] at this; omega
  subst hi
  cases hd
  simp [ints,hy,Qd])
 rw [Qj] at this
 exact this (fun _=>rfl)
theorem QFq (hT:Qh P tab) (c:List Int) (tg:Bool) (n:Int) (hl:c.length≤1000000):Am.Pure P G Qba [.lst 1 (ints c) tg,.int .i64 n] fun u=>u=.bool (decide (n∈c)):=by
 refine fun t=>Xq 0 (zL _) (Q0 hT Q7 (by simp [XN]) (Ql 20 ?_))
 refine ya ?_
 refine XS c (fun i fr σ=>n ∉ c.take i∧Qf fr 0=.lst 1 (ints c) tg∧Qf fr 1=.int .i64 n∧Qf fr 5=.int .i64 ((i:Nat):Int)∧σ=⟨t,[]⟩) (fun e fr σ=>(e=.ret∧n∈c∧Qf fr 4=.bool true)∨(e=.ex 0∧n ∉ c)) ⟨by simp,?_⟩ (fun i x hx fr σ hJ=>?_) (fun i hi fr σ hJ=>?_) (fun e fr σ hE=>?_)
 ·refine ya ?_
  try simp
 ·obtain ⟨hno,f0,f1,f5,rfl⟩:=hJ
  have hlt:=(List.getElem?_eq_some_iff.1 hx).1
  have hD:=Qld hx
  have e2:=YJ hlt (by omega)
  by_cases he:x=n
  ·have hE:(x==n)=true:=by simpa using he
   have hm:n∈c:=he▸List.mem_of_getElem? hx
   refine Qe [(0,.lst 1 (ints c) tg),(1,.int .i64 n),(5,.int .i64 ((i:Nat):Int))] ⟨f0,f1,f5,trivial⟩  1000 ?_
   simp -implicitDefEqProofs (disch:=omega) only [go_sem,↓reduceIte,reduceCtorEq,rq,Qj,hlt,hD,hE]
   try exact hm
  ·have hE:(x==n)=false:=by simpa using he
   refine Qe [(0,.lst 1 (ints c) tg),(1,.int .i64 n),(5,.int .i64 ((i:Nat):Int))] ⟨f0,f1,f5,trivial⟩  1000 ?_
   simp -implicitDefEqProofs (disch:=omega) only [go_sem,↓reduceIte,reduceCtorEq,rq,Qj,hlt,hD,hE,e2]
   refine ⟨_,_,Shift.refl _ _ _ _,fun hm=>?_,?_⟩
   ·rw [Qy hx,List.mem_append,List.mem_singleton] at hm
    exact hm.elim hno fun e=>he e.symm
   ·exact yb
 ·obtain ⟨hno,f0,f1,f5,rfl⟩:=hJ
  rw [hi,List.take_length] at hno
  refine Qe [(0,.lst 1 (ints c) tg),(1,.int .i64 n),(5,.int .i64 ((i:Nat):Int))] ⟨f0,f1,f5,trivial⟩  12 ?_
  simp -implicitDefEqProofs (disch:=omega) only [go_sem,↓reduceIte,reduceCtorEq,rq,Qj,hi,Nat.lt_irrefl]
  try exact hno
 ·rcases hE with ⟨rfl,hm,f4⟩ | ⟨rfl,hno⟩
  ·refine Qa 12 ?_
   refine yy ?_
   try simp [hm]
  ·refine Qa 12 ?_
   refine ya ?_
   try simp [hno]
end
section
attribute [local go_sem] nF nT cA lA lC lN nA List.set_cons_zero aZ lR Nat.mul_one zA and_true decide_false decide_true Qj Qz XG QEi QEh QgF QgE QgD Qlu QwZ QEg QwY QwX QwW QqC QqB Qlt Qls Qk true_and true_implies
def PassOk (l:List Pr) (frm:Int) (n0:Nat) (inn:List Int) (ag:Bool) (i k:Nat):Prop:=TI l frm inn∧n0≤inn.length∧(ag=true→n0<inn.length)∧(ag=false→CLto l inn i k)
variable {p q:Pr} {n0 i k:Nat} {l:List Pr}
theorem PassOk.no {frm:Int} {inn:List Int} {ag:Bool} (h:PassOk l frm n0 inn ag i k) (hp:l[i]?=some p) (hq:l[k]?=some q) (hc:¬ (p.k=q.k∧p.n=q.n∧p.v∈inn∧q.v ∉ inn)):PassOk l frm n0 inn ag i (k+1) :=
 ⟨h.1,h.2.1,h.2.2.1,fun e=>(h.2.2.2 e).next hp hq hc⟩
theorem PassOk.add {l:List Pr} {frm:Int} {n0:Nat} {inn:List Int} {ag:Bool} {i k:Nat} (h:PassOk l frm n0 inn ag i k) {p q:Pr} (hp:l[i]?=some p) (hq:l[k]?=some q) (h1:p.k=q.k) (h2:p.n=q.n) (h3:p.v∈inn) (h4:q.v ∉ inn):PassOk l frm n0 (inn++[q.v]) true i (k+1) :=
 ⟨h.1.add (List.mem_of_getElem? hp) (List.mem_of_getElem? hq) h1 h2 h3 h4,by have:=h.2.1; simp; omega,fun _=>by have:=h.2.1; simp; omega,fun e=>by cases e⟩
abbrev tiJ (l:List Pr) (tg:Bool) (frm:Int) (n0 i:Nat):Nat→Fr→H→Prop:=fun k fr σ=>∃ t w inn ag,PassOk l frm n0 inn ag i k∧Qf fr 0=.lst 3 (prs l) tg∧Qf fr 5=.sl 0 w 0 1 inn.length none∧Qf fr 6=.bool ag∧Qf fr 7=.int .i64 ((i:Nat):Int)∧Qf fr 8=.int .i64 ((k:Nat):Int)∧σ=⟨t,[some (.arr w 3 (ints inn))]⟩
abbrev tiE (l:List Pr) (tg:Bool) (frm:Int) (n0 i:Nat):AE→Fr→H→Prop:=fun e fr σ=>∃ t w inn ag,e=.ex 4∧PassOk l frm n0 inn ag (i+1) 0∧Qf fr 0=.lst 3 (prs l) tg∧Qf fr 5=.sl 0 w 0 1 inn.length none∧Qf fr 6=.bool ag∧Qf fr 7=.int .i64 ((i:Nat):Int)∧σ=⟨t,[some (.arr w 3 (ints inn))]⟩
variable {σ:H} {fr:Fr} {tg:Bool}
theorem QzQ (hT:Qh P tab) {frm:Int} (hp:l[i]?=some p) (hq:l[k]?=some q) (hl:l.length≤900000) (hJ:tiJ l tg frm n0 i k fr σ) :
 W P G 76 0 wD fr σ (YH (fun fr σ=>∃ fr' σ',Shift G 76 0 fr σ fr' σ'∧tiJ l tg frm n0 i (k+1) fr' σ') (tiE l tg frm n0 i)):=by
 obtain ⟨t,w,inn,ag,hok,f0,f5,f6,f7,f8,rfl⟩:=hJ
 have hi:=(List.getElem?_eq_some_iff.1 hp).1
 have hk:=(List.getElem?_eq_some_iff.1 hq).1
 have hDp:=QaW hp
 have hDq:=QaW hq
 simp only [prV,prC] at hDp hDq
 have e2:=YJ hk (by omega)
 have hil:inn.length≤1000000:=by have:=hok.1.len; omega
 by_cases h1:p.k=q.k
 ·have h1':(p.k != q.k)=false:=by simp [h1]
  by_cases h2:p.n=q.n
  ·have h2':(p.n != q.n)=false:=by simp [h2]
   have hH:=QFq (P:=P) (G:=G) hT inn false p.v (by omega)
   have hs1:∀ x:Int,SeenL [some (Ob.arr w 3 (ints inn))] [V.sl 0 w 0 1 inn.length none,V.int .i64 x] [.lst 1 (ints inn) false,V.int .i64 x]:=fun x=>.cons _ _ _ _ (seen_ints rfl rfl) (.cons _ _ _ _ (.same _ rfl) .nil)
   by_cases h3:p.v∈inn
   ·rw [decide_eq_true h3] at hH
    have hH2:=QFq (P:=P) (G:=G) hT inn false q.v (by omega)
    by_cases h4:q.v∈inn
    ·rw [decide_eq_true h4] at hH2
     refine Qe [(0,.lst 3 (prs l) tg),(5,.sl 0 w 0 1 inn.length none),(6,.bool ag),(7,.int .i64 ((i:Nat):Int)),(8,.int .i64 ((k:Nat):Int))] ⟨f0,f5,f6,f7,f8,trivial⟩  12 ?_
     refine yk ?_
     iterate 12 (try (refine Qa 4 ?_; simp -implicitDefEqProofs (disch:=omega) only [go_sem,↓reduceIte,reduceCtorEq,rA,rq,rL,hi,hk,hDp,hDq,h1',h2']))
     refine QdR hT Q7 (σ:=⟨t,[some (Ob.arr w 3 (ints inn))]⟩) hH (hs1 _) rfl 4 ?_
     refine ya ?_
     iterate 12 (try (refine Qa 4 ?_; simp -implicitDefEqProofs (disch:=omega) only [go_sem,↓reduceIte,reduceCtorEq,rA,rq,rL,hk,hDq]))
     refine QdR hT Q7 (σ:=⟨t,[some (Ob.arr w 3 (ints inn))]⟩) hH2 (hs1 _) rfl 4 ?_
     refine ya ?_
     iterate 12 (try (refine Qa 4 ?_; simp -implicitDefEqProofs (disch:=omega) only [go_sem,↓reduceIte,reduceCtorEq,rq,e2]))
     refine ⟨_,_,Shift.refl _ _ _ _,t,w,inn,ag,hok.no hp hq (fun hc=>hc.2.2.2 h4),?_⟩
     exact yb
    ·rw [decide_eq_false h4] at hH2
     refine Qe [(0,.lst 3 (prs l) tg),(5,.sl 0 w 0 1 inn.length none),(6,.bool ag),(7,.int .i64 ((i:Nat):Int)),(8,.int .i64 ((k:Nat):Int))] ⟨f0,f5,f6,f7,f8,trivial⟩  12 ?_
     refine yk ?_
     iterate 12 (try (refine Qa 4 ?_; simp -implicitDefEqProofs (disch:=omega) only [go_sem,↓reduceIte,reduceCtorEq,rA,rq,rL,hi,hk,hDp,hDq,h1',h2']))
     refine QdR hT Q7 (σ:=⟨t,[some (Ob.arr w 3 (ints inn))]⟩) hH (hs1 _) rfl 4 ?_
     refine ya ?_
     iterate 12 (try (refine Qa 4 ?_; simp -implicitDefEqProofs (disch:=omega) only [go_sem,↓reduceIte,reduceCtorEq,rA,rq,rL,hk,hDq]))
     refine QdR hT Q7 (σ:=⟨t,[some (Ob.arr w 3 (ints inn))]⟩) hH2 (hs1 _) rfl 4 ?_
     refine ya ?_
     iterate 12 (try (refine Qa 4 ?_; simp -implicitDefEqProofs (disch:=omega) only [go_sem,↓reduceIte,reduceCtorEq,rA,rq,rL,List.getElem?_cons_zero,hk,hDq,e2]))
     refine ⟨_,_,Shift.refl _ _ _ _,t+1,t,inn++[q.v],true,hok.add hp hq h1 h2 h3 h4,?_⟩
     simp -implicitDefEqProofs (disch:=omega) only [go_sem,↓reduceIte,reduceCtorEq,rq,Qyp]
   ·rw [decide_eq_false h3] at hH
    refine Qe [(0,.lst 3 (prs l) tg),(5,.sl 0 w 0 1 inn.length none),(6,.bool ag),(7,.int .i64 ((i:Nat):Int)),(8,.int .i64 ((k:Nat):Int))] ⟨f0,f5,f6,f7,f8,trivial⟩  12 ?_
    refine yk ?_
    iterate 12 (try (refine Qa 4 ?_; simp -implicitDefEqProofs (disch:=omega) only [go_sem,↓reduceIte,reduceCtorEq,rA,rq,rL,hi,hk,hDp,hDq,h1',h2']))
    refine QdR hT Q7 (σ:=⟨t,[some (Ob.arr w 3 (ints inn))]⟩) hH (hs1 _) rfl 4 ?_
    refine ya ?_
    iterate 12 (try (refine Qa 4 ?_; simp -implicitDefEqProofs (disch:=omega) only [go_sem,↓reduceIte,reduceCtorEq,rq,e2]))
    refine ⟨_,_,Shift.refl _ _ _ _,t,w,inn,ag,hok.no hp hq (fun hc=>h3 hc.2.2.1),?_⟩
    exact yb
  ·have h2':(p.n != q.n)=true:=by simpa using h2
   refine Qe [(0,.lst 3 (prs l) tg),(5,.sl 0 w 0 1 inn.length none),(6,.bool ag),(7,.int .i64 ((i:Nat):Int)),(8,.int .i64 ((k:Nat):Int))] ⟨f0,f5,f6,f7,f8,trivial⟩  12 ?_
   refine yk ?_
   iterate 20 (try (refine Qa 4 ?_; simp -implicitDefEqProofs (disch:=omega) only [go_sem,↓reduceIte,reduceCtorEq,rA,rq,rL,hi,hk,hDp,hDq,h1',h2',e2]))
   refine ⟨_,_,Shift.refl _ _ _ _,t,w,inn,ag,hok.no hp hq (fun hc=>h2 hc.2.1),?_⟩
   exact yb
 ·have h1':(p.k != q.k)=true:=by simpa using h1
  refine Qe [(0,.lst 3 (prs l) tg),(5,.sl 0 w 0 1 inn.length none),(6,.bool ag),(7,.int .i64 ((i:Nat):Int)),(8,.int .i64 ((k:Nat):Int))] ⟨f0,f5,f6,f7,f8,trivial⟩  12 ?_
  refine yk ?_
  iterate 20 (try (refine Qa 4 ?_; simp -implicitDefEqProofs (disch:=omega) only [go_sem,↓reduceIte,reduceCtorEq,rA,rq,rL,hi,hk,hDp,hDq,h1',e2]))
  refine ⟨_,_,Shift.refl _ _ _ _,t,w,inn,ag,hok.no hp hq (fun hc=>h1 hc.1),?_⟩
  exact yb
theorem QHM (hT:Qh P tab) {frm:Int} (hk:k=l.length) (hJ:tiJ l tg frm n0 i k fr σ) :
 W P G 76 0 wD fr σ (YH (fun _ _=>False) (tiE l tg frm n0 i)):=by
 obtain ⟨t,w,inn,ag,hok,f0,f5,f6,f7,f8,rfl⟩:=hJ
 refine Qe [(0,.lst 3 (prs l) tg),(5,.sl 0 w 0 1 inn.length none),(6,.bool ag),(7,.int .i64 ((i:Nat):Int)),(8,.int .i64 ((k:Nat):Int))] ⟨f0,f5,f6,f7,f8,trivial⟩  12 ?_
 refine yp ?_
 refine ⟨t,w,inn,ag,rfl,⟨hok.1,hok.2.1,hok.2.2.1,fun e=>(by have:=hok.2.2.2 e; rw [hk] at this; exact this.row)⟩,?_⟩
 repeat' (first | exact rfl | refine ⟨rfl,?_⟩)
abbrev tjJ (l:List Pr) (tg:Bool) (frm:Int) (n0:Nat):Nat→Fr→H→Prop:=fun i fr σ=>∃ t w inn ag,PassOk l frm n0 inn ag i 0∧Qf fr 0=.lst 3 (prs l) tg∧Qf fr 5=.sl 0 w 0 1 inn.length none∧Qf fr 6=.bool ag∧Qf fr 7=.int .i64 ((i:Nat):Int)∧σ=⟨t,[some (.arr w 3 (ints inn))]⟩
abbrev tjE (l:List Pr) (tg:Bool) (frm:Int) (n0:Nat):AE→Fr→H→Prop:=fun e fr σ=>∃ t w inn ag,e=.ex 2∧PassOk l frm n0 inn ag l.length 0∧Qf fr 0=.lst 3 (prs l) tg∧Qf fr 5=.sl 0 w 0 1 inn.length none∧Qf fr 6=.bool ag∧σ=⟨t,[some (.arr w 3 (ints inn))]⟩
theorem QzP (hT:Qh P tab) {frm:Int} (hp:l[i]?=some p) (hl:l.length≤900000) (hJ:tjJ l tg frm n0 i fr σ) :
 W P G 76 0 wE fr σ (YH (fun fr σ=>∃ fr' σ',Shift G 76 0 fr σ fr' σ'∧tjJ l tg frm n0 (i+1) fr' σ') (tjE l tg frm n0)):=by
 obtain ⟨t,w,inn,ag,hok,f0,f5,f6,f7,rfl⟩:=hJ
 have hi:=(List.getElem?_eq_some_iff.1 hp).1
 have e1:=YJ hi (by omega)
 refine Qe [(0,.lst 3 (prs l) tg),(5,.sl 0 w 0 1 inn.length none),(6,.bool ag),(7,.int .i64 ((i:Nat):Int))] ⟨f0,f5,f6,f7,trivial⟩  20 ?_
 refine ye ?_
 refine XS l (tiJ l tg frm n0 i) (tiE l tg frm n0 i) ⟨t,w,inn,ag,hok,?_⟩ (fun k q hq fr σ hJ=>QzQ hT hp hq hl hJ) (fun k hk fr σ hJ=>QHM hT hk hJ) (fun e fr σ hE=>?_)
 ·refine ya ?_
  try simp
 ·obtain ⟨t,w,inn,ag,rfl,hok,f0,f5,f6,f7,rfl⟩:=hE
  refine QcZ [(0,.lst 3 (prs l) tg),(5,.sl 0 w 0 1 inn.length none),(6,.bool ag),(7,.int .i64 ((i:Nat):Int))] ⟨f0,f5,f6,f7,trivial⟩  12 ?_
  simp -implicitDefEqProofs (disch:=omega) only [go_sem,↓reduceIte,reduceCtorEq,rq,e1]
  refine ⟨_,_,Shift.refl _ _ _ _,t,w,inn,ag,hok,?_⟩
  exact yb
theorem QHL (hT:Qh P tab) {frm:Int} (hi:i=l.length) (hJ:tjJ l tg frm n0 i fr σ) :
 W P G 76 0 wE fr σ (YH (fun _ _=>False) (tjE l tg frm n0)):=by
 obtain ⟨t,w,inn,ag,hok,f0,f5,f6,f7,rfl⟩:=hJ
 refine Qe [(0,.lst 3 (prs l) tg),(5,.sl 0 w 0 1 inn.length none),(6,.bool ag),(7,.int .i64 ((i:Nat):Int))] ⟨f0,f5,f6,f7,trivial⟩  12 ?_
 refine yd ?_
 refine ⟨t,w,inn,ag,rfl,hi▸hok,?_⟩
 repeat' (first | exact rfl | refine ⟨rfl,?_⟩)
abbrev tkJ (l:List Pr) (tg:Bool) (frm:Int):Nat→Fr→H→Prop:=fun m fr σ=>∃ t w inn ag,m=2 * (l.length+1 - inn.length)+(if ag then 1 else 0)∧TI l frm inn∧(ag=false→TiedOk l frm inn)∧Qf fr 0=.lst 3 (prs l) tg∧Qf fr 5=.sl 0 w 0 1 inn.length none∧Qf fr 6=.bool ag∧σ=⟨t,[some (.arr w 3 (ints inn))]⟩
abbrev tkE (l:List Pr) (frm:Int):AE→Fr→H→Prop:=fun e fr σ=>∃ t w inn,e=.ex 0∧TI l frm inn∧TiedOk l frm inn∧Qf fr 5=.sl 0 w 0 1 inn.length none∧σ=⟨t,[some (.arr w 3 (ints inn))]⟩
theorem QzO (hT:Qh P tab) {frm:Int} (hl:l.length≤900000) {m:Nat} (hJ:tkJ l tg frm m fr σ) :
 W P G 76 0 (.seq (zg QwY [] (zw 11 .skip (.exit 0))) (.block 1 (zg QwX [] (zg QwW [] (.block 2 (.loop (.seq (zg QqC [12,13,14] (zw 15 .skip (.exit 2))) (.seq (.block 3 (zg QqB [] (.block 4 (.loop (.seq (zg Qlt [18,19,20] (zw 21 .skip (.exit 4))) (.seq (.block 5 (.seq (zg Qls [24,25,26,27,28,29,30,31,32,33,34,35,36,37,38,39,40,41,42,43,44,45,46,47,48,49,50,51,52,53,54,55,56,57,58,59,60,61,62,63,64,65] (zw 66 (.exit 5) .skip)) (zg QgF [67,68,69,70,71,72,73,74] (.reg QgE [])))) (.reg QgD [22,23]))))))) (.reg Qlu [16,17]))))))))) fr σ (YH (fun fr σ=>∃ m' fr' σ',m'<m∧Shift G 76 0 fr σ fr' σ'∧tkJ l tg frm m' fr' σ') (tkE l frm)):=by
 obtain ⟨t,w,inn,ag,rfl,hti,hcl,f0,f5,f6,rfl⟩:=hJ
 cases ag with
 | false =>
   refine Qe [(0,.lst 3 (prs l) tg),(5,.sl 0 w 0 1 inn.length none),(6,.bool false)] ⟨f0,f5,f6,trivial⟩  12 ?_
   refine ya ?_
   refine ⟨t,w,inn,rfl,hti,hcl rfl,?_⟩
   repeat' (first | exact rfl | refine ⟨rfl,?_⟩)
 | true =>
   refine Qe [(0,.lst 3 (prs l) tg),(5,.sl 0 w 0 1 inn.length none),(6,.bool true)] ⟨f0,f5,f6,trivial⟩  20 ?_
   refine ya ?_
   refine XS l (tjJ l tg frm inn.length) (tjE l tg frm inn.length) ⟨t,w,inn,false,⟨hti,lR _,(fun e=>by cases e),fun _=>CLto.zero l inn⟩,?_⟩ (fun k q hq fr σ hJ=>QzP hT hq hl hJ) (fun k hk fr σ hJ=>QHL hT hk hJ) (fun e fr σ hE=>?_)
   ·refine ya ?_
    try simp
   ·obtain ⟨t,w,inn2,ag,rfl,hok,f0,f5,f6,rfl⟩:=hE
    have hlen:=hok.1.len
    have hlen0:=hti.len
    have hle:=hok.2.1
    have hlt:=hok.2.2.1
    have hm:2 * (l.length+1 - inn2.length)+(if ag then 1 else 0)<2 * (l.length+1 - inn.length)+1:=by
     cases ag with
     | false=>simp; omega
     | true=>have:=hlt rfl; simp; omega
    exact (show ∃ m' fr' σ',m'<2 * (l.length+1 - inn.length)+1∧Shift G 76 0 fr _ fr' σ'∧tkJ l tg frm m' fr' σ' from ⟨_,fr,_,hm,Shift.refl _ _ _ _,t,w,inn2,ag,rfl,hok.1,fun e=>(hok.2.2.2 e).all hok.1,f0,f5,f6,rfl⟩)
theorem c_Tied (hT:Qh P tab) (l:List Pr) (tg:Bool) (frm:Int) (hl:l.length≤900000):Am.Pure P G QaE [.lst 3 (prs l) tg,.int .i64 frm] fun u=>∃ inn,TiedOk l frm inn∧TI l frm inn∧u=.lst 1 (ints inn) false:=by
 intro t
 refine QBw (Q:=fun u _=>Qd u=true∧∃ inn,TiedOk l frm inn∧TI l frm inn∧u=.lst 1 (ints inn) false) (QfU (Q:=fun u σ=>∃ w inn,TiedOk l frm inn∧TI l frm inn∧u=.sl 0 w 0 1 inn.length none∧σ.o[0]?=some (some (.arr w 3 (ints inn)))) ?_ fun u σ hu=>?_) fun u σ hu=>⟨u,.refl _,hu⟩
 rotate_left
 ·obtain ⟨w,inn,h1,h2,rfl,h3⟩:=hu
  have hz:=QuC (sz:=1) (k:=0) (w:=w) (QoB inn)
  rw [Qj] at hz
  refine .inr ⟨0,w,3,_,zL _,h3,QdC _,?_,inn,h1,h2,hz⟩
  rw [hz]; simp [Qd]
 refine Q0 hT Qaw (by simp [XG]) (Ql 20 ?_)
 refine ya ?_
 refine Qbe (tkJ l tg frm) (tkE l frm) (m0:=2 * (l.length+1 - 1)+1) ⟨t+1,t,[frm],true,rfl,TI.start l frm,(fun e=>by cases e),?_⟩ (fun m fr σ hJ=>QzO hT hl hJ) (fun e fr σ hE=>?_)
 ·refine ya ?_
  try simp [ints]
 ·obtain ⟨t2,w,inn,rfl,hti,hok,f5,rfl⟩:=hE
  refine QV [(5,.sl 0 w 0 1 inn.length none)] ⟨f5,trivial⟩ 12 ?_
  simp -implicitDefEqProofs (disch:=omega) only [go_sem,↓reduceIte,rq,List.getElem?_cons_zero]
  exact ⟨w,inn,hok,hti,rfl,rfl⟩
end
section
attribute [local go_sem] List.getD_cons_succ List.getD_cons_zero lA lC lN nA aZ lR Nat.mul_one zA zL and_true beq_self_eq_true decide_false decide_true Qj Qz Xj QFJ QFI QFH QFG QFF QFE QFD XI zqp_0 zqp_1 zqp_2 zqp_3 true_and true_implies
def wV (vs:List Int) (lk:Int) (rs ss:List Int) (sure:Bool):List V:=.lst 1 (ints vs) false::.int .i64 lk::(ints rs++[.lst 1 (ints ss) false,.bool sure])
theorem QsC (vs:List Int) (lk:Int) (rs ss:List Int) (sure:Bool):Qb (wV vs lk rs ss sure)=true:=by simp [wV,Qb,Qd,QdC,Qff]
def hW (vs:List Int) (lk v:Int):Int:=if v<0 then lk else vs.getD v.toNat 0
theorem QgI (rs ss:List Int) (sure:Bool):ones (ints rs++[V.lst 1 (ints ss) false,V.bool sure])=True:=eq_true (by
 intro u hu
 rcases List.mem_append.1 hu with hu | hu
 ·unfold ints at hu; obtain ⟨r,_,rfl⟩:=List.mem_map.1 hu; rfl
 ·simp at hu; rcases hu with rfl | rfl <;> rfl)
variable {ss rs:List Int}
theorem QbR {n:Nat} (hn:n<ss.length):(ints ss).getD n V.any=.int .i64 (ss.getD n 0):=by
 rw [List.getD_eq_getElem?_getD]; simp [ints,hn]
theorem QuR (hT:Qh P tab) (vs:List Int) (lk:Int) (rs ss:List Int) (sure:Bool) (hr:rs.length=32) {v:Int} (h0:-1≤v) (hv:v<vs.length):Am.Pure P G QaG [.agg (wV vs lk rs ss sure),.int .i64 v] fun u=>u=.int .i64 (hW vs lk v):=by
 refine fun t=>Xq 0 (zL _) (Q0 hT QM (by simp [XI]) ?_)
 have ho:=QgI rs ss sure
 simp only [wV]
 by_cases h:v<0
 ·have e:hW vs lk v=lk:=by simp [hW,h]
  rw [e]
  refine Ql 30 ?_
  simp -implicitDefEqProofs (disch:=omega) only [go_sem,↓reduceIte,reduceCtorEq,rA,rq,rL,List.getElem?_cons_zero,h,hr,ho]
 ·have e:hW vs lk v=vs.getD v.toNat 0:=by simp [hW,h]
  rw [e]
  have g:=QbR (ss:=vs) (n:=v.toNat) (by omega)
  have hv1:v.toNat<vs.length:=by omega
  have hv2:0≤v:=by omega
  refine Ql 10 ?_
  simp -implicitDefEqProofs (disch:=omega) only [go_sem,↓reduceIte,reduceCtorEq,rq,h,ho]
  iterate 8 (try (refine Qa 3 ?_; simp -implicitDefEqProofs (disch:=omega) only [go_sem,↓reduceIte,reduceCtorEq,rA,rq,rL,List.getElem?_cons_zero,hr,g,hv1,hv2]))
variable {n:Int}
theorem QxM (h0:0≤n) (hn:n<rs.length) (tl:List V):(ints rs++tl).getD n.toNat V.any=.int .i64 (rs.getD n.toNat 0):=by
 rw [List.getD_eq_getElem?_getD,List.getElem?_append_left (by rw [Qj]; omega),← List.getD_eq_getElem?_getD]
 exact QbR (by omega)
theorem Qz6 (hr:rs.length=32) (a:V) (tl:List V):(ints rs++a::tl).getD 32 V.any=a:=by
 rw [List.getD_eq_getElem?_getD,List.getElem?_append_right (by rw [Qj]; omega),Qj,hr]; rfl
theorem ints_at (h0:0≤n) (hn:n<ss.length):(ints ss).getD n.toNat V.any=.int .i64 (ss.getD n.toNat 0):=by
 have:=QxM h0 hn []
 rwa [List.append_nil] at this
theorem k_at (hT:Qh P tab) {gp:V} {t:Nat} {o:List (Option Ob)} (vs:List Int) (lk:Int) (rs ss:List Int) (sure:Bool) (hr:rs.length=32) {k x:Int} (h:k=1∧0≤n∧n<32∧rs.getD n.toNat 0=x∨k=2∧0≤n∧n<ss.length∧ss.getD n.toNat 0=x) :
 C P G 0 X7 [gp,.agg (wV vs lk rs ss sure),.int .u8 k,.int .i64 n] ⟨t,o⟩ fun u σ=>u=.int .i64 x∧∃ t',t≤t'∧σ=⟨t',o⟩:=by
 refine Xq o.length (zL _) (Q0 hT X5 (by simp [Xj]) ?_)
 simp only [wV]
 have ho:=QgI rs ss sure
 rcases h with ⟨rfl,h0,h1,rfl⟩ | ⟨rfl,h0,h1,rfl⟩
 ·have g:∀ (a b:V) tl,(a::b::(ints rs++tl)).getD (2+n.toNat) V.any=.int .i64 (rs.getD n.toNat 0):=fun a b tl=>by
   rw [Nat.add_comm]; exact QxM (rs:=rs) h0 (by omega) tl
  refine Ql 30 ?_
  simp -implicitDefEqProofs (disch:=omega) only [go_sem,↓reduceIte,reduceCtorEq,rA,rq,rL,hr,g,ho,List.getElem?_concat_length]
  try simp
 ·have g:=ints_at h0 h1
  have g2:∀ (a b c:V) tl,(a::b::(ints rs++c::tl)).getD 34 V.any=c:=fun a b c tl=>Qz6 hr c tl
  refine Ql 40 ?_
  simp -implicitDefEqProofs (disch:=omega) only [go_sem,↓reduceIte,reduceCtorEq,rA,rq,rL,Int.reduceBEq,hr,g,g2,ho,List.getElem?_concat_length]
  try simp
end
section
attribute [local go_sem] List.getD_cons_zero lC lN aZ lR zA and_true decide_false decide_true Qj Qz Qjn Qjm Qjl Qjk Qql Qqk Qk true_implies
variable {y z vars bh x u:Int} {k v0 i:Nat} {inn:List Int}
theorem QuL (hk:inn[k]?=some y):decide (z∈inn.take (k+1))=(decide (z∈inn.take k) || (y==z)):=by
 rw [Qy hk,Bool.eq_iff_iff]
 simp only [decide_eq_true_eq,Bool.or_eq_true,beq_iff_eq,List.mem_append,List.mem_singleton]
 exact or_congr Iff.rfl eq_comm
abbrev h1J (v0:Nat) (ps:List Pr) (tg:Bool) (vars nx bh x:Int) (wv:List V) (inn:List Int) (num:Bool) (i:Nat) (z:Int) (σ0:Am.H):Nat→Fr→H→Prop:=fun k fr σ=>∃ b,b=decide (z∈inn.take k)∧Qf fr 0=.ptr 1 v0 0∧Qf fr 2=.lst 3 (prs ps) tg∧Qf fr 4=.int .i64 vars∧Qf fr 5=.int .i64 nx∧Qf fr 6=.int .i64 bh∧Qf fr 8=.ref (.agg wv) 0∧Qf fr 15=.lst 1 (ints inn) false∧Qf fr 16=.int .i64 x∧Qf fr 17=.bool num∧Qf fr 18=.int .i64 ((i:Nat):Int)∧Qf fr 19=.bool b∧Qf fr 20=.int .i64 ((k:Nat):Int)∧σ=σ0
abbrev h1E (v0:Nat) (ps:List Pr) (tg:Bool) (vars nx bh x:Int) (wv:List V) (inn:List Int) (num:Bool) (i:Nat) (z:Int) (σ0:Am.H):AE→Fr→H→Prop:=fun e fr σ=>∃ b,e=.ex 2∧b=decide (z∈inn)∧Qf fr 0=.ptr 1 v0 0∧Qf fr 2=.lst 3 (prs ps) tg∧Qf fr 4=.int .i64 vars∧Qf fr 5=.int .i64 nx∧Qf fr 6=.int .i64 bh∧Qf fr 8=.ref (.agg wv) 0∧Qf fr 15=.lst 1 (ints inn) false∧Qf fr 16=.int .i64 x∧Qf fr 17=.bool num∧Qf fr 18=.int .i64 ((i:Nat):Int)∧Qf fr 19=.bool b∧σ=σ0
variable {fr:Fr} {σ0 σ:Am.H} {wv:List V} {tg num:Bool} {ps:List Pr}
theorem QAG (hT:Qh P tab) {nx:Int} {p:Pr} (hp:ps[i]?=some p) (hk:inn[k]?=some y) (hl:inn.length≤1000000) (hJ:h1J v0 ps tg vars nx bh x wv inn num i p.v σ0 k fr σ) :
 W P G 174 0 wF fr σ (YH (fun fr σ=>∃ fr' σ',Shift G 174 0 fr σ fr' σ'∧h1J v0 ps tg vars nx bh x wv inn num i p.v σ0 (k+1) fr' σ') (h1E v0 ps tg vars nx bh x wv inn num i p.v σ0)):=by
 obtain ⟨b,hb,f0,f2,f4,f5,f6,f8,f15,f16,f17,f18,f19,f20,rfl⟩:=hJ
 have hi:=(List.getElem?_eq_some_iff.1 hp).1
 have hkl:=(List.getElem?_eq_some_iff.1 hk).1
 have hD:=QaW hp
 have hDk:=Qld hk
 have e2:=YJ hkl (by omega)
 simp only [prV,prC] at hD
 have hst:=QuL (z:=p.v) hk
 rw [← hb] at hst
 cases b with
 | true =>
   refine Qe [(0,.ptr 1 v0 0),(2,.lst 3 (prs ps) tg),(4,.int .i64 vars),(5,.int .i64 nx),(6,.int .i64 bh),(8,.ref (.agg wv) 0),(15,.lst 1 (ints inn) false),(16,.int .i64 x),(17,.bool num),(18,.int .i64 ((i:Nat):Int)),(19,.bool true),(20,.int .i64 ((k:Nat):Int))] ⟨f0,f2,f4,f5,f6,f8,f15,f16,f17,f18,f19,f20,trivial⟩  12 ?_
   refine yr ?_
   iterate 12 (try (refine Qa 4 ?_; simp -implicitDefEqProofs (disch:=omega) only [go_sem,↓reduceIte,reduceCtorEq,rq,e2]))
   refine ⟨_,_,Shift.refl _ _ _ _,true,?_,?_⟩
   ·rw [hst]; rfl
   ·exact yb
 | false =>
   rw [Bool.false_or] at hst
   refine Qe [(0,.ptr 1 v0 0),(2,.lst 3 (prs ps) tg),(4,.int .i64 vars),(5,.int .i64 nx),(6,.int .i64 bh),(8,.ref (.agg wv) 0),(15,.lst 1 (ints inn) false),(16,.int .i64 x),(17,.bool num),(18,.int .i64 ((i:Nat):Int)),(19,.bool false),(20,.int .i64 ((k:Nat):Int))] ⟨f0,f2,f4,f5,f6,f8,f15,f16,f17,f18,f19,f20,trivial⟩  12 ?_
   refine yr ?_
   iterate 12 (try (refine Qa 4 ?_; simp -implicitDefEqProofs (disch:=omega) only [go_sem,↓reduceIte,reduceCtorEq,rA,rq,rL,hi,hkl,hD,hDk,e2]))
   refine ⟨_,_,Shift.refl _ _ _ _,(y==p.v),hst.symm,?_⟩
   exact yb
theorem QIC (hT:Qh P tab) {nx:Int} (hk:k=inn.length) (hJ:h1J v0 ps tg vars nx bh x wv inn num i z σ0 k fr σ) :
 W P G 174 0 wF fr σ (YH (fun _ _=>False) (h1E v0 ps tg vars nx bh x wv inn num i z σ0)):=by
 obtain ⟨b,hb,f0,f2,f4,f5,f6,f8,f15,f16,f17,f18,f19,f20,rfl⟩:=hJ
 rw [hk,List.take_length] at hb
 refine Qe [(0,.ptr 1 v0 0),(2,.lst 3 (prs ps) tg),(4,.int .i64 vars),(5,.int .i64 nx),(6,.int .i64 bh),(8,.ref (.agg wv) 0),(15,.lst 1 (ints inn) false),(16,.int .i64 x),(17,.bool num),(18,.int .i64 ((i:Nat):Int)),(19,.bool b),(20,.int .i64 ((k:Nat):Int))] ⟨f0,f2,f4,f5,f6,f8,f15,f16,f17,f18,f19,f20,trivial⟩  12 ?_
 refine yp ?_
 refine ⟨b,rfl,hb,?_⟩
 repeat' (first | exact rfl | refine ⟨rfl,?_⟩)
abbrev h3J (vars x:Int) (wv:List V) (inn:List Int) (num:Bool) (u:Int) (σ0:Am.H):Nat→Fr→H→Prop:=fun k fr σ=>∃ b,b=decide (u∈inn.take k)∧Qf fr 4=.int .i64 vars∧Qf fr 8=.ref (.agg wv) 0∧Qf fr 15=.lst 1 (ints inn) false∧Qf fr 16=.int .i64 x∧Qf fr 17=.bool num∧Qf fr 23=.int .i64 u∧Qf fr 24=.bool b∧Qf fr 25=.int .i64 ((k:Nat):Int)∧σ=σ0
abbrev h3E (vars x:Int) (wv:List V) (inn:List Int) (num:Bool) (u:Int) (σ0:Am.H):AE→Fr→H→Prop:=fun e fr σ=>∃ b,e=.ex 6∧b=decide (u∈inn)∧Qf fr 4=.int .i64 vars∧Qf fr 8=.ref (.agg wv) 0∧Qf fr 15=.lst 1 (ints inn) false∧Qf fr 16=.int .i64 x∧Qf fr 17=.bool num∧Qf fr 23=.int .i64 u∧Qf fr 24=.bool b∧σ=σ0
theorem QAE (hT:Qh P tab) (hk:inn[k]?=some y) (hl:inn.length≤1000000) (hJ:h3J vars x wv inn num u σ0 k fr σ) :
 W P G 174 0 wG fr σ (YH (fun fr σ=>∃ fr' σ',Shift G 174 0 fr σ fr' σ'∧h3J vars x wv inn num u σ0 (k+1) fr' σ') (h3E vars x wv inn num u σ0)):=by
 obtain ⟨b,hb,f4,f8,f15,f16,f17,f23,f24,f25,rfl⟩:=hJ
 have hkl:=(List.getElem?_eq_some_iff.1 hk).1
 have hDk:=Qld hk
 have e2:=YJ hkl (by omega)
 have hst:=QuL (z:=u) hk
 rw [← hb] at hst
 cases b with
 | true =>
   refine Qe [(4,.int .i64 vars),(8,.ref (.agg wv) 0),(15,.lst 1 (ints inn) false),(16,.int .i64 x),(17,.bool num),(23,.int .i64 u),(24,.bool true),(25,.int .i64 ((k:Nat):Int))] ⟨f4,f8,f15,f16,f17,f23,f24,f25,trivial⟩  12 ?_
   refine yr ?_
   iterate 12 (try (refine Qa 4 ?_; simp -implicitDefEqProofs (disch:=omega) only [go_sem,↓reduceIte,rq,e2]))
   refine ⟨_,_,Shift.refl _ _ _ _,true,?_,?_⟩
   ·rw [hst]; rfl
   ·exact yb
 | false =>
   rw [Bool.false_or] at hst
   refine Qe [(4,.int .i64 vars),(8,.ref (.agg wv) 0),(15,.lst 1 (ints inn) false),(16,.int .i64 x),(17,.bool num),(23,.int .i64 u),(24,.bool false),(25,.int .i64 ((k:Nat):Int))] ⟨f4,f8,f15,f16,f17,f23,f24,f25,trivial⟩  12 ?_
   refine yr ?_
   iterate 12 (try (refine Qa 4 ?_; simp -implicitDefEqProofs (disch:=omega) only [go_sem,↓reduceIte,rA,rq,hkl,hDk,e2]))
   refine ⟨_,_,Shift.refl _ _ _ _,(y==u),hst.symm,?_⟩
   exact yb
theorem QIA (hT:Qh P tab) (hk:k=inn.length) (hJ:h3J vars x wv inn num u σ0 k fr σ) :
 W P G 174 0 wG fr σ (YH (fun _ _=>False) (h3E vars x wv inn num u σ0)):=by
 obtain ⟨b,hb,f4,f8,f15,f16,f17,f23,f24,f25,rfl⟩:=hJ
 rw [hk,List.take_length] at hb
 refine Qe [(4,.int .i64 vars),(8,.ref (.agg wv) 0),(15,.lst 1 (ints inn) false),(16,.int .i64 x),(17,.bool num),(23,.int .i64 u),(24,.bool b),(25,.int .i64 ((k:Nat):Int))] ⟨f4,f8,f15,f16,f17,f23,f24,f25,trivial⟩  12 ?_
 refine yp ?_
 refine ⟨b,rfl,hb,?_⟩
 repeat' (first | exact rfl | refine ⟨rfl,?_⟩)
end
section
attribute [local go_sem] nF nT List.getD_cons_succ List.getD_cons_zero lC lN aZ lR zA and_true bne_self_eq_false decide_true false_implies Qz Qjn Qqz Qqy Qqx Qqw Qqv Qqu Qqt Qqs QwJ QwI QwH Qql Qqk Qk true_and true_implies
structure HoOk (L:List Nd) (ps:List Pr) (vs:List Int) (lk:Int) (rs ss:List Int) (vars nx bh v:Int):Prop where
 same:∀ inn,TiedOk ps v inn→∀ p∈ps,p.v∈inn→hW vs lk p.v=hW vs lk v∧((p.k=1∧0≤p.n∧p.n<32∧rs.getD p.n.toNat 0=hW vs lk v∨p.k=2∧0≤p.n∧p.n<ss.length∧ss.getD p.n.toNat 0=hW vs lk v)∨p.k=3)
 num:∀ inn,TiedOk ps v inn→∀ l1 p l2,ps=l1++p::l2→(∀ q∈l1,¬ (q.k=3∧q.v∈inn))→p.k=3→p.v∈inn→hW vs lk v=Xc L (co p.n)∧Hs L (co p.n)
 sym:∀ inn,TiedOk ps v inn→(∀ q∈ps,¬ (q.k=3∧q.v∈inn))→∃ c,hW vs lk v=Xc L (sy c)∧Hs L (sy c)∧nx≤c∧c<bh∧∀ u,-1≤u∧u<vars→u ∉ inn→hW vs lk u≠hW vs lk v
 node:0≤hW vs lk v∧hW vs lk v<L.length
 n64:∀ p∈ps,i64 p.n
 pv:∀ p∈ps,-1≤p.v∧p.v<vs.length
def QAo (inn:List Int) (l:List Pr):Bool:=l.any fun q=>decide (q.k=3∧q.v∈inn)
variable {p:Pr} {i:Nat} {ps:List Pr}
theorem Qx6 (inn:List Int) (hp:ps[i]?=some p):QAo inn (ps.take (i+1))=(QAo inn (ps.take i) || decide (p.k=3∧p.v∈inn)):=by
 rw [Qy hp]; simp [QAo]
variable {inn:List Int}
theorem Qx7 {l:List Pr} (h:QAo inn l=false):∀ q∈l,¬ (q.k=3∧q.v∈inn):=fun q hq hc=>by
 have:=List.any_eq_false.1 h q hq
 simp [hc] at this
abbrev h0J (F:Fmt P G) (v0 v1:Nat) (L:List Nd) (ps:List Pr) (tg:Bool) (vars nx bh x:Int) (wv:List V) (inn:List Int):Nat→Fr→H→Prop:=fun i fr σ=>∃ num L' t' w2 w3 w4,num=QAo inn (ps.take i)∧Ext L L'∧L'.length≤L.length+(if num then 1 else 0)∧Qf fr 0=.ptr 1 v0 0∧Qf fr 2=.lst 3 (prs ps) tg∧Qf fr 4=.int .i64 vars∧Qf fr 5=.int .i64 nx∧Qf fr 6=.int .i64 bh∧Qf fr 8=.ref (.agg wv) 0∧Qf fr 15=.lst 1 (ints inn) false∧Qf fr 16=.int .i64 x∧Qf fr 17=.bool num∧Qf fr 18=.int .i64 ((i:Nat):Int)∧σ=⟨t',kG F.fmt v0 v1 w2 w3 w4 L'++[none]⟩
abbrev h0E (F:Fmt P G) (v0 v1:Nat) (L:List Nd) (ps:List Pr) (vars nx bh x:Int) (wv:List V) (inn:List Int):AE→Fr→H→Prop:=fun e fr σ=>∃ num L' t' w2 w3 w4,e=.ex 0∧num=QAo inn ps∧Ext L L'∧L'.length≤L.length+1∧Qf fr 0=.ptr 1 v0 0∧Qf fr 4=.int .i64 vars∧Qf fr 5=.int .i64 nx∧Qf fr 6=.int .i64 bh∧Qf fr 8=.ref (.agg wv) 0∧Qf fr 15=.lst 1 (ints inn) false∧Qf fr 16=.int .i64 x∧Qf fr 17=.bool num∧σ=⟨t',kG F.fmt v0 v1 w2 w3 w4 L'++[none]⟩
theorem QAH (hT:Qh P tab) (F:Fmt P G) {v0 v1:Nat} {L:List Nd} {tg:Bool} {vars nx bh v lk:Int} {vs rs ss:List Int} {sure:Bool} (hr:rs.length=32) (hH:HoOk L ps vs lk rs ss vars nx bh v) (hti:TiedOk ps v inn) (hil:inn.length≤1000000) (hpl:ps.length≤1000000) (hL:L.length≤100000) (hp:ps[i]?=some p) {fr:Fr} {σ:Am.H} (hJ:h0J F v0 v1 L ps tg vars nx bh (hW vs lk v) (wV vs lk rs ss sure) inn i fr σ) :
 W P G 174 0 wH fr σ (YH (fun fr σ=>∃ fr' σ',Shift G 174 0 fr σ fr' σ'∧h0J F v0 v1 L ps tg vars nx bh (hW vs lk v) (wV vs lk rs ss sure) inn (i+1) fr' σ') (h0E F v0 v1 L ps vars nx bh (hW vs lk v) (wV vs lk rs ss sure) inn)):=by
 obtain ⟨num,L',t',w2,w3,w4,hn,hE,hLl,f0,f2,f4,f5,f6,f8,f15,f16,f17,f18,rfl⟩:=hJ
 have hi:=(List.getElem?_eq_some_iff.1 hp).1
 have hpm:=List.mem_of_getElem? hp
 have hD:=QaW hp
 have e2:=YJ hi (by omega)
 simp only [prV,prC] at hD
 have hns:=Qx6 inn hp
 rw [← hn] at hns
 obtain ⟨x,hx⟩:∃ x,x=hW vs lk v:=⟨_,rfl⟩
 have hwn:=QsC vs lk rs ss sure
 have hwl:(wV vs lk rs ss sure).length=36:=by simp [wV,Qj,hr]
 have htk:List.take 36 (wV vs lk rs ss sure)=wV vs lk rs ss sure:=List.take_of_length_le (by omega)
 have hpv:=hH.pv p hpm
 have hhe:=QuR (P:=P) (G:=G) hT vs lk rs ss sure hr hpv.1 hpv.2
 obtain ⟨wv,hwv⟩:∃ wv,wv=wV vs lk rs ss sure:=⟨_,rfl⟩
 rw [← hwv] at f8 hwn hwl hhe htk ⊢
 rw [← hx] at f16 ⊢
 refine Qe [(0,.ptr 1 v0 0),(2,.lst 3 (prs ps) tg),(4,.int .i64 vars),(5,.int .i64 nx),(6,.int .i64 bh),(8,.ref (.agg wv) 0),(15,.lst 1 (ints inn) false),(16,.int .i64 x),(17,.bool num),(18,.int .i64 ((i:Nat):Int))] ⟨f0,f2,f4,f5,f6,f8,f15,f16,f17,f18,trivial⟩ 24 ?_
 refine ye ?_
 refine XS inn (h1J v0 ps tg vars nx bh x wv inn num i p.v _) (h1E v0 ps tg vars nx bh x wv inn num i p.v ⟨t',kG F.fmt v0 v1 w2 w3 w4 L'++[none]⟩) ⟨false,?_,?_⟩ (fun k y hk fr σ hJ=>QAG hT hp hk hil hJ) (fun k hk fr σ hJ=>QIC hT hk hJ) (fun e fr σ hE=>?_)
 ·simp
 ·refine ya ?_
  try simp
 ·obtain ⟨b,rfl,hb,f0,f2,f4,f5,f6,f8,f15,f16,f17,f18,f19,rfl⟩:=hE
  by_cases hin:p.v∈inn
  ·rw [decide_eq_true hin] at hb
   subst hb
   obtain ⟨hsx,hat⟩:=hH.same inn hti p hpm hin
   rw [← hx] at hsx hat
   rw [hsx] at hhe
   have hhn:Qb [V.agg wv,.int .i64 p.v]=true:=by simp [Qb,Qd,hwn]
   have exx:(x != x)=false:=by simp
   by_cases k3:p.k=3
   ·have k3':(p.k==3)=true:=by simpa using k3
    have k3n:(p.k != 3)=false:=by simp [k3]
    have hns':QAo inn (ps.take (i+1))=true:=by rw [hns]; simp [k3,hin]
    cases num with
    | true =>
      refine QV [(0,.ptr 1 v0 0),(2,.lst 3 (prs ps) tg),(4,.int .i64 vars),(5,.int .i64 nx),(6,.int .i64 bh),(8,.ref (.agg wv) 0),(15,.lst 1 (ints inn) false),(16,.int .i64 x),(17,.bool true),(18,.int .i64 ((i:Nat):Int)),(19,.bool true)] ⟨f0,f2,f4,f5,f6,f8,f15,f16,f17,f18,f19,trivial⟩  30 ?_
      simp -implicitDefEqProofs (disch:=omega) only [go_sem,↓reduceIte,reduceCtorEq,rA,rq,rL,hi,hD,k3',hwl,htk]
      iterate 20 (try (refine Qa 4 ?_; simp -implicitDefEqProofs (disch:=omega) only [go_sem,↓reduceIte,reduceCtorEq,rA,rq,rL]))
      refine QX hT QM hhe hhn 4 ?_
      refine ya ?_
      iterate 30 (try (refine Qa 4 ?_; simp -implicitDefEqProofs (disch:=omega) only [go_sem,↓reduceIte,reduceCtorEq,rA,rq,rL,e2,hi,hD,k3n]))
      refine ⟨_,_,Shift.refl _ _ _ _,true,L',t',w2,w3,w4,hns'.symm,hE,hLl,?_⟩
      exact yb
    | false =>
      have hps:ps=ps.take i++p::ps.drop (i+1):=by rw [← (List.getElem?_eq_some_iff.1 hp).2]; simp
      obtain ⟨hxn,hsn⟩:=hH.num inn hti _ p _ hps (Qx7 hn.symm) k3 hin
      rw [← hx] at hxn
      refine QV [(0,.ptr 1 v0 0),(2,.lst 3 (prs ps) tg),(4,.int .i64 vars),(5,.int .i64 nx),(6,.int .i64 bh),(8,.ref (.agg wv) 0),(15,.lst 1 (ints inn) false),(16,.int .i64 x),(17,.bool false),(18,.int .i64 ((i:Nat):Int)),(19,.bool true)] ⟨f0,f2,f4,f5,f6,f8,f15,f16,f17,f18,f19,trivial⟩  30 ?_
      simp -implicitDefEqProofs (disch:=omega) only [go_sem,↓reduceIte,reduceCtorEq,rA,rq,rL,hi,hD,k3']
      iterate 20 (try (refine Qa 4 ?_; simp -implicitDefEqProofs (disch:=omega) only [go_sem,↓reduceIte,reduceCtorEq,rA,rq,hi,hD]))
      refine CV.use 4 (CV.of hT XD (QdA hT F (ex:=[none]) (n:=p.n) (hH.n64 p hpm) (by simp at hLl; omega))) fun v σ hv=>?_
      obtain ⟨L2,t2,u2,u3,u4,x1,x2,x3,x4,rfl,rfl⟩:=hv
      rw [Xm hsn (hE.trans x1),← hxn]
      refine ya ?_
      iterate 20 (try (refine Qa 4 ?_; simp -implicitDefEqProofs (disch:=omega) only [go_sem,↓reduceIte,reduceCtorEq,rA,rq,rL,hi,hD,hwl,htk]))
      refine QX hT QM hhe hhn 4 ?_
      refine ya ?_
      iterate 30 (try (refine Qa 4 ?_; simp -implicitDefEqProofs (disch:=omega) only [go_sem,↓reduceIte,reduceCtorEq,rA,rq,rL,e2,hi,hD,k3n]))
      refine ⟨_,_,Shift.refl _ _ _ _,true,L2,t2,u2,u3,u4,hns'.symm,hE.trans x1,by simp at hLl ⊢; omega,?_⟩
      exact yb
   ·have k3':(p.k==3)=false:=by simpa using k3
    have k3n:(p.k != 3)=true:=by simpa using k3
    have hns':QAo inn (ps.take (i+1))=num:=by rw [hns]; simp [k3]
    refine QV [(0,.ptr 1 v0 0),(2,.lst 3 (prs ps) tg),(4,.int .i64 vars),(5,.int .i64 nx),(6,.int .i64 bh),(8,.ref (.agg wv) 0),(15,.lst 1 (ints inn) false),(16,.int .i64 x),(17,.bool num),(18,.int .i64 ((i:Nat):Int)),(19,.bool true)] ⟨f0,f2,f4,f5,f6,f8,f15,f16,f17,f18,f19,trivial⟩  30 ?_
    simp -implicitDefEqProofs (disch:=omega) only [go_sem,↓reduceIte,reduceCtorEq,rA,rq,rL,hi,hD,k3',hwl,htk]
    iterate 20 (try (refine Qa 4 ?_; simp -implicitDefEqProofs (disch:=omega) only [go_sem,↓reduceIte,reduceCtorEq,rA,rq,rL]))
    refine QX hT QM hhe hhn 4 ?_
    refine ya ?_
    iterate 30 (try (refine Qa 4 ?_; simp -implicitDefEqProofs (disch:=omega) only [go_sem,↓reduceIte,reduceCtorEq,rA,rq,rL,hi,hD,k3n,hwl,htk]))
    refine Qi9 hT X5 (hwv▸k_at hT vs lk rs ss sure hr (hat.resolve_right k3)) 4 fun t2 ht2=>?_
    refine ya ?_
    iterate 30 (try (refine Qa 4 ?_; simp -implicitDefEqProofs (disch:=omega) only [go_sem,↓reduceIte,reduceCtorEq,rq,e2]))
    refine ⟨_,_,Shift.refl _ _ _ _,num,L',t2,w2,w3,w4,hns'.symm,hE,hLl,?_⟩
    exact yb
  ·rw [decide_eq_false hin] at hb
   subst hb
   refine QV [(0,.ptr 1 v0 0),(2,.lst 3 (prs ps) tg),(4,.int .i64 vars),(5,.int .i64 nx),(6,.int .i64 bh),(8,.ref (.agg wv) 0),(15,.lst 1 (ints inn) false),(16,.int .i64 x),(17,.bool num),(18,.int .i64 ((i:Nat):Int)),(19,.bool false)] ⟨f0,f2,f4,f5,f6,f8,f15,f16,f17,f18,f19,trivial⟩  30 ?_
   refine yf ?_
   refine ⟨_,_,Shift.refl _ _ _ _,num,L',t',w2,w3,w4,?_,hE,hLl,?_⟩
   ·rw [hns]; simp [hin]
   ·exact yb
end
end Go.Proofs.YtfgccihafnjalaaGreatDoor
