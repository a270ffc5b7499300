/- Reading a region. -/
import Derived.Test.YtaidbdgndljaeaaGreatDoorJ7
import Derived.Test.YtaidbdgndljaeaaGreatDoorJ4
open Nat renaming reduceEqDiff → rq, reduceAdd → rA, reduceLeDiff → rL, reduceLT → rT, zero_add → zA, le_refl → lR, zero_le → zL, add_zero → aZ
open List renaming length_cons → lC, length_nil → lN, take_succ_cons → tS, length_append → lA, nil_append → nA, cons_append → cA, append_assoc → aA, take_nil → tN, take_zero → tZ, length_map → lM
open Bool renaming not_false → nF, not_true → nT
namespace Go.Proofs.YtaidbdgndljaeaaGreatDoor
open Go Go.Am Go.Rv Go.Rg
set_option maxRecDepth 100000
section
attribute [local go_sem] nF cA lM nA aZ lR Nat.succ_ne_zero zA zL V.cells and_true QF decide_false false_implies flt X5 QaY inC Q9 Qw not_false_eq_true QaV QE4 QE3 QnF QnE QsJ QsI QqB QqA Qqz Qqy Qqx Qqw QE2 Qqv Qqu QsH QsG QE1 QE0 QsF QsE QsD QsC QsB QU true_and true_implies zF
theorem chunk5 (c:List In):Ze 5 c.length (QaJ c)=c.map fun x=>V.agg (inC x):=by
 induction c with
 | nil=>rfl
 | cons x c ih =>
   show Ze 5 (c.length+1) (inC x++QaJ c)=_
   unfold Ze
   rw [List.map_cons,← ih]
   rfl
def QrW (n:Nat):Rg.Fn ⊕ (Nat × Int)→V
 | .inl f=>.tup [.agg (fnC f.name f.pl f.code f.frame f.cuts),.agg (flt 0 0 0)]
 | .inr e=>.tup [.agg (fnC [] 0 [] 0 []),.agg (flt n e.1 e.2)]
theorem wk_zF:Wk (.agg zF) (.agg (fnC [] 0 [] 0 [])) :=
 .agg _ _ (.cons _ _ _ _ (.refl _) (.cons _ _ _ _ (.refl _) (.cons _ _ _ _ (.lst 0 5 [] [] true .nil (.inl rfl)) (.cons _ _ _ _ (.refl _) (.cons _ _ _ _ (.lst 0 1 [] [] true .nil (.inl rfl)) .nil)))))
theorem Qq3 (c:List In):Qb (QaJ c)=true:=by
 induction c with
 | nil=>rfl
 | cons x c ih =>
   show Qb (inC x++QaJ c)=true
   rw [Yp,ih]; rfl
variable {s:List UInt8 × Int} {n:Nat}
theorem QGV (hT:Qk Tryz.prog tab) (m:Im) (hm:ImB m) (hr:right m=true) (hw:∀ w∈m.code,0≤w∧w<4294967296) (hl:m.code.length≤1000) (hs:m.syms[n]?=some s) :
 Am.Pure Tryz.prog G0 QdY [QaY m,.int .i64 (n:Int)] fun v=>Wk v (QrW n (Qfk (ats m) s.1 s.2 (words m n))):=by
 intro t
 have hB:=QrA (P:=Tryz.prog) (G:=G0) hT m hm hr hs
 have hlt:=(List.getElem?_eq_some_iff.1 hs).1
 have hD:=QhY hs
 obtain ⟨a,b,ef,et,hab,hbl,es,ew⟩:=(QgU hr).bounds hs
 have hsl:=hm.s
 have hnl:=Qbv m
 rw [ef,et] at hB
 have w1:IntKind.i64.wrap ((4 * (a:Int)).tdiv 4)=(a:Int):=by
  rw [Int.mul_tdiv_cancel_left _ (by decide),XA (by omega)]
 have w2:IntKind.i64.wrap ((4 * (b:Int)).tdiv 4)=(b:Int):=by
  rw [Int.mul_tdiv_cancel_left _ (by decide),XA (by omega)]
 have hdt:List.take (b - a) (List.drop a (m.code.map (V.int .u32)))=(words m n).map (V.int .u32):=by rw [ew]; simp [List.map_take,List.map_drop]
 have hwl:(words m n).length=b - a:=by rw [ew]; simp; omega
 have hwb:∀ w∈words m n,0≤w∧w<4294967296:=fun w h=>by
  rw [ew] at h
  exact hw w (List.mem_of_mem_drop (List.mem_of_mem_take h))
 generalize words m n=ws at *
 simp only [QaY,X5,QU,QF] at hB hnl
 simp only [Qju] at hD
 refine Qp 0 (zL _) (Qt hT QdT (by simp [QaV]) (Qn 6 ?_))
 simp -implicitDefEqProofs (disch:=omega) only [go_sem,↓reduceIte,reduceCtorEq,rA,rq]
 refine Q8 (Shift.freeze (k:=0) (v:=t) (T:=25) (cs:=X5 m) (zL _) rfl (QiU m)) ?_
 simp only [X5,QU,QF,YG,Zd,QiX,Qaa,Xt,Ob.mapV,List.set_cons_zero,Option.map_some,Option.map_none,List.map_cons,List.map_nil]
 refine Qa 9 ?_
 simp -implicitDefEqProofs (disch:=omega) only [go_sem,↓reduceIte,reduceCtorEq,rA,rq]
 refine Qf hT QdU hB (by simp [Qb,Qd]) 26 ?_
 simp -implicitDefEqProofs (disch:=omega) only [go_sem,↓reduceIte,reduceCtorEq,rA,rq,rL,rT,hlt,hD]
 refine Q8 (HShift.shift (HShift.ownAt 5 47 (base:=0) (k:=3) (v:=t+1+1+1) (T':=107) (p:=5) (z:=0) (cs:=[.int .i64 m.data,.lst 2 (m.syms.map Qju) false,.lst 1 (m.code.map (V.int .u32)) false,.str s.1,.int .i64 (4 * (a:Int)),.lst 0 [] true,.int .i64 0,.lst 0 [] true]) (zL _) rfl rfl)) ?_
 simp only [List.set_cons_succ,List.set_cons_zero,lC,lN,cA,nA]
 have ha0:¬ ((a:Int)<0):=by omega
 have hab':((a:Int)≤(b:Int))=True:=eq_true (by omega)
 have hab'':(a≤b)=True:=eq_true (by omega)
 have h0a:((0:Int)≤(a:Int))=True:=eq_true (by omega)
 have hbl':(b≤m.code.length)=True:=eq_true hbl
 refine Qa 14 ?_
 simp -implicitDefEqProofs (disch:=omega) only [go_sem,↓reduceIte,reduceCtorEq,rA,rq,Int.reduceEq,w1,w2,hdt,hab',h0a,hbl',Int.toNat_natCast]
 generalize t+1=v1
 generalize v1+1=v2
 generalize v2+1=vr
 generalize vr+1=vm
 refine Xn ws (rwJ m s.1 (4 * (a:Int)) ws n v1 v2 vr vm (some (.arr v1 37 zF)) (some (.arr v2 31 (flt 0 0 0)))) (rwE m s.1 (4 * (a:Int)) ws n v1 v2 vr vm (some (.arr v1 37 zF)) (some (.arr v2 31 (flt 0 0 0)))) ⟨vm+1+1,vm+1,?_⟩ (fun i w hx fr σ hJ=>Qxj hT hwb (by omega) hx hJ) (fun i hi fr σ hJ=>?_) (fun e fr σ hE=>?_)
 ·simp -implicitDefEqProofs (disch:=omega) only [go_sem,↓reduceIte,reduceCtorEq,rq]
  simp [rcC,QU,QF,Qnx,km,QaJ]
 ·obtain ⟨t2,wv,f1,f4,f5,f8,f9,f40,f41,f42,rfl⟩:=hJ
  have hcl:(codeOf ws).take i=codeOf ws:=List.take_of_length_le (by simp [codeOf,hi])
  rw [hcl]
  refine Qh [(1,.int .i64 ((n:Nat):Int)),(4,.ptr 1 v1 0),(5,.ptr 2 v2 0),(8,.ptr 3 vr 0),(9,.mp 4 vm),(40,QF ws),(41,.int .i64 ws.length),(42,.int .i64 ((i:Nat):Int))] ⟨f1,f4,f5,f8,f9,f40,f41,f42,trivial⟩  12 ?_
  simp -implicitDefEqProofs (disch:=omega) only [go_sem,↓reduceIte,rq,hi,Nat.lt_irrefl]
  exact ⟨t2,wv,rfl,rfl,rfl,rfl,rfl,rfl,rfl⟩
 obtain ⟨t2,wv,rfl,f1,f4,f5,f8,f9,rfl⟩:=hE
 have hcl:(codeOf ws).length=ws.length:=by simp [codeOf]
 refine Qvf [(1,.int .i64 ((n:Nat):Int)),(4,.ptr 1 v1 0),(5,.ptr 2 v2 0),(8,.ptr 3 vr 0),(9,.mp 4 vm)] ⟨f1,f4,f5,f8,f9,trivial⟩ ?_
 refine Q8 (Shift.freeze (k:=5) (v:=wv) (T:=47) (cs:=QaJ (codeOf ws)) (zL _) rfl (Qq3 _)) ?_
 have hfz:Qaa 5 wv (QaJ (codeOf ws)) (.sl 5 wv 0 5 ws.length none)=Q9 (codeOf ws):=by
  have hle:(codeOf ws).length * 5≤(QaJ (codeOf ws)).length:=by rw [Qid]; omega
  simp [Qaa,Qcb,Q9,← hcl,chunk5,hle]
 have hfk:∀ S,(km kI QpW S).map (fun p=>(p.1,Qaa 5 wv (QaJ (codeOf ws)) p.2))=km kI QpW S:=fun S=>by
  simp [km,kI,Qaa,QpW]
 have n15:((1:Nat)=5)=False:=eq_false (by decide)
 have n25:((2:Nat)=5)=False:=eq_false (by decide)
 have n35:((3:Nat)=5)=False:=eq_false (by decide)
 simp only [YG,Zd,Xt,List.set_cons_succ,List.set_cons_zero,Option.map_some,Option.map_none,Ob.mapV,rcC,zF,flt,QU,QF,List.map_cons,List.map_nil,hfz]
 simp only [Qaa,n15,n25,n35,false_and,if_false,hfk]
 obtain ⟨x0,hx0⟩:∃ x0,(codeOf ws)[0]?=some x0:=⟨_,List.getElem?_eq_getElem (by omega)⟩
 have hx0m:=List.mem_of_getElem? hx0
 have hok:∀ x∈codeOf ws,Zq x∧(-8589934592≤x.imm∧x.imm≤8589934592):=fun x hx=>by
  obtain ⟨w,hw,rfl⟩:=List.mem_map.1 hx
  cases hd:dec w with
  | none=>simp [Zq,zeroI,i64]
  | some y =>
    obtain ⟨d1,d2⟩:=QlA (hwb w hw).1 hd
    exact ⟨⟨d1.1,d1.2.1,d1.2.2.1,d1.2.2.2,by show i64 y.imm; unfold i64; omega⟩,d2⟩
 have hFr:=QGY (P:=Tryz.prog) (G:=G0) hT x0 (by have:=(hok x0 hx0m).2; omega)
 have hfc:XZ x0=frameC (codeOf ws):=by unfold frameC; rw [List.getD_eq_getElem?_getD,hx0]; rfl
 rw [hfc] at hFr
 have hD0:=Xo hx0
 have hl0:0<(codeOf ws).length:=by omega
 have hl0':((0:Int)<((codeOf ws).length:Int))=True:=eq_true (by omega)
 simp only [inC] at hFr hD0
 refine Qa 14 ?_
 simp -implicitDefEqProofs (disch:=omega) only [go_sem,↓reduceIte,reduceCtorEq,rA,rq,rL,Int.reduceToNat,Int.reduceLE,hD0,hl0]
 refine Qf hT Qf6 hFr rfl 30 ?_
 simp -implicitDefEqProofs (disch:=omega) only [go_sem,↓reduceIte,rA,rq,rL]
 have hrd:Qfk (ats m) s.1 s.2 ws=match Yj (ats m) (4 * (a:Int)) (codeOf ws) (frameC (codeOf ws)) 0 ws with | none=>.inl (Qox s.1 (4 * (a:Int)) ws) | some e=>.inr e:=by rw [← es]; rfl
 generalize hFF:frameC (codeOf ws)=F at *
 refine Xn ws (flJ m s.1 (4 * (a:Int)) (codeOf ws) F ws n v1 v2 vr vm) (flE m s.1 (4 * (a:Int)) (codeOf ws) F ws n v1 v2 vr vm) ⟨t2,by simp,?_⟩ (fun i w hx fr σ hJ=>Qx8 hT hwb (by omega) (by omega) (by omega) hx hJ) (fun i hi fr σ hJ=>?_) (fun e fr σ hE=>?_)
 ·simp -implicitDefEqProofs (disch:=omega) only [go_sem,↓reduceIte,rq]
  simp [rd6,rdC,QU,QF,Q9,inC,zF,flt]
 ·obtain ⟨t3,hf,f1,f4,f5,f8,f9,f87,f88,rfl⟩:=hJ
  rw [hi,List.drop_length] at hf
  have hi':i=(codeOf ws).length:=by omega
  refine Qh [(1,.int .i64 ((n:Nat):Int)),(4,.ptr 1 v1 0),(5,.ptr 2 v2 0),(8,.ptr 3 vr 0),(9,.mp 4 vm),(87,.int .i64 (codeOf ws).length),(88,.int .i64 ((i:Nat):Int))] ⟨f1,f4,f5,f8,f9,f87,f88,trivial⟩  12 ?_
  simp -implicitDefEqProofs (disch:=omega) only [go_sem,↓reduceIte,rq,hi',Nat.lt_irrefl]
  exact .inr ⟨rfl,hf,rfl,rfl,rfl,rfl,t3,rfl⟩
 rcases hE with ⟨rfl,f4,f5,i,er,t3,X3,X4,hf,rfl⟩ | ⟨rfl,hf,f1,f4,f5,f8,t3,rfl⟩
 ·rw [hrd,hf]
  refine Qa 12 ?_
  simp -implicitDefEqProofs (disch:=omega) only [go_sem,↓reduceIte,reduceCtorEq,rA,rq,f4,f5]
  exact .tup _ _ (.cons _ _ _ _ wk_zF (.cons _ _ _ _ (.refl _) .nil))
 ·rw [hrd,hf]
  have hC:=Pure.args (.cons _ _ _ _ QFI .nil) (c_cuts (G:=G0) hT s.1 (4 * (a:Int)) F (codeOf ws) [] (by omega) fun x hx=>(hok x hx).1)
  simp only [fnN,Q9,inC,Qz] at hC
  refine YE [(1,.int .i64 ((n:Nat):Int)),(4,.ptr 1 v1 0),(5,.ptr 2 v2 0),(8,.ptr 3 vr 0)] ⟨f1,f4,f5,f8,trivial⟩ 60 ?_
  simp -implicitDefEqProofs (disch:=omega) only [go_sem,↓reduceIte,reduceCtorEq,rA,rq,rd6,rdC]
  have hfn:Qox s.1 (4 * (a:Int)) ws=⟨s.1,4 * (a:Int),codeOf ws,F,Rg.cuts (codeOf ws) F⟩:=by unfold Qox; rw [hFF]
  refine Qf hT QcW hC (by simp [Qb,Qd]) 60 ?_
  simp -implicitDefEqProofs (disch:=omega) only [go_sem,↓reduceIte,reduceCtorEq,rA,rq]
  rw [hfn]
  exact .refl _
theorem Qxp (n:Nat) (r:Rg.Fn ⊕ (Nat × Int)):Qd (QrW n r)=true:=by
 cases r <;> simp [QrW,Qd,Qb,Qfl,flt]
theorem c_read (hT:Qk Tryz.prog tab) (m:Im) (hm:ImB m) (hr:right m=true) (hw:∀ w∈m.code,0≤w∧w<4294967296) (hl:m.code.length≤1000) (hs:m.syms[n]?=some s) :
 Am.Pure Tryz.prog G0 QdY [QaY m,.int .i64 (n:Int)] fun v=>v=QrW n (Qfk (ats m) s.1 s.2 (words m n)):=fun t =>
 QyO (QGV hT m hm hr hw hl hs t) fun v σ ⟨_,h⟩=>⟨_,h,Qxp _ _,rfl⟩
end
section
attribute [local go_sem] nF nT lR Nat.succ_ne_zero zA zL bne_self_eq_false decide_false decide_true Qw Qea zq5_0 zq5_1 QsU QsT QyT zq5_2 zq5_3 zq5_4 QFt QFs QFr QFq QFp
theorem take3 (a b c d e:Option Ob):YR [a,b,c] [a,b,c,d,e]:=Y0 3 [a,b,c,d,e]
def fC (f:Rg.Fn):List V:=fnC f.name f.pl f.code f.frame f.cuts
def Qad (r:List Rg.Fn):V:=.lst 5 (r.map fun f=>V.agg (fC f)) false
def Qpg (r:List Rg.Fn):List V:=(r.map fC).flatten
theorem Qvp (r:List Rg.Fn) (f:Rg.Fn):Qpg (r++[f])=Qpg r++fC f:=by simp [Qpg]
theorem Qq2 (r:List Rg.Fn):(Qpg r).length=5 * r.length:=by
 induction r with
 | nil=>rfl
 | cons x c ih =>
   show (fC x++Qpg c).length=_
   rw [lA,ih,lC]
   simp [fC,fnC]; omega
theorem chunkF (r:List Rg.Fn):Ze 5 r.length (Qpg r)=r.map fun f=>V.agg (fC f):=by
 induction r with
 | nil=>rfl
 | cons x c ih =>
   show Ze 5 (c.length+1) (fC x++Qpg c)=_
   unfold Ze
   rw [List.map_cons,← ih]
   rfl
theorem QFV (r:List Rg.Fn):Qb (Qpg r)=true:=by
 induction r with
 | nil=>rfl
 | cons x c ih =>
   show Qb (fC x++Qpg c)=true
   rw [Yp,ih,Bool.and_true]
   exact Qfl
def ofV:List Rg.Fn ⊕ (Nat × Nat × Int)→V
 | .inl r=>.tup [Qad r,.agg (flt 0 0 0)]
 | .inr e=>.tup [Qad [],.agg (flt e.1 e.2.1 e.2.2)]
def Qll (r0:List Rg.Fn):List Rg.Fn ⊕ (Nat × Nat × Int)→List Rg.Fn ⊕ (Nat × Nat × Int)
 | .inl r=>.inl (r0++r)
 | .inr e=>.inr e
variable {s:List UInt8 × Int} {n:Nat} {m:Im}
theorem Qjw (h:m.syms[n]?=some s):readAll m n (m.syms.drop n)=match Qfk (ats m) s.1 s.2 (words m n) with
 | .inr e=>.inr (n,e.1,e.2)
 | .inl f=>Qll [f] (readAll m (n+1) (m.syms.drop (n+1))):=by
 have hl:=(List.getElem?_eq_some_iff.1 h).1
 rw [List.drop_eq_getElem_cons hl,(List.getElem?_eq_some_iff.1 h).2,readAll]
 cases Qfk (ats m) s.1 s.2 (words m n) with
 | inr e=>rfl
 | inl f =>
   cases readAll m (n+1) (m.syms.drop (n+1)) <;> rfl
theorem Qot (a b:List Rg.Fn) (x:List Rg.Fn ⊕ (Nat × Nat × Int)):Qll a (Qll b x)=Qll (a++b) x:=by cases x <;> simp [Qll]
abbrev oaJ (m:Im) (v3:Nat):Nat→Fr→H→Prop:=fun n fr σ=>∃ t w r,ofS m=Qll r (readAll m n (m.syms.drop n))∧r.length=n∧Qg fr 1=.ref (.agg (X5 m)) 0∧Qg fr 3=.ptr 1 v3 0∧Qg fr 4=.sl 2 w 0 5 r.length none∧Qg fr 14=.int .i64 m.syms.length∧Qg fr 15=.int .i64 ((n:Nat):Int)∧σ=⟨t,[none,some (.arr v3 31 (flt 0 0 0)),some (.arr w 37 (Qpg r))]⟩
abbrev oaE (m:Im) (v3:Nat):AE→Fr→H→Prop:=fun e fr σ =>
 (e=.ret∧Qg fr 2=.lst 0 [] true∧Qg fr 3=.ptr 1 v3 0∧∃ (n i:Nat) (er:Int) (t:Nat) (ex:List (Option Ob)),ofS m=.inr (n,i,er)∧σ=⟨t,none::some (.arr v3 31 (flt n i er))::ex⟩) ∨
 (e=.ex 0∧∃ t w r,ofS m=.inl r∧Qg fr 1=.ref (.agg (X5 m)) 0∧Qg fr 3=.ptr 1 v3 0∧Qg fr 4=.sl 2 w 0 5 r.length none∧σ=⟨t,[none,some (.arr v3 31 (flt 0 0 0)),some (.arr w 37 (Qpg r))]⟩)
theorem QxA (hT:Qk Tryz.prog tab) {v3:Nat} (hm:ImB m) (hr:right m=true) (hw:∀ w∈m.code,0≤w∧w<4294967296) (hl:m.code.length≤1000) (he0:∀ (n i:Nat) (e:Int),ofS m=.inr (n,i,e)→e≠0) (hs:m.syms[n]?=some s) {fr:Fr} {σ:H} (hJ:oaJ m v3 n fr σ) :
 W Tryz.prog G0 35 0 (zg QFt [] (.seq (zw 16 .skip (.exit 0)) (.seq (.block 1 (zg QFs [17] (zg QFr [19,20,21,18,22,23] (.seq (zg QFq [24,25] (zw 26 (zg QFp [27] .ret) .skip)) (.reg QsU [28,29,30,31]))))) (.reg QsT [32])))) fr σ (QbQ (fun fr σ=>∃ fr' σ',Shift G0 35 0 fr σ fr' σ'∧oaJ m v3 (n+1) fr' σ') (oaE m v3)):=by
 obtain ⟨t,w,r,hof,hrn,f1,f3,f4,f14,f15,rfl⟩:=hJ
 have hlt:=(List.getElem?_eq_some_iff.1 hs).1
 have hsl:=hm.s
 have e2:=ZT hlt (by omega)
 have hR:=c_read hT m hm hr hw hl hs
 have hnx:=Qjw hs
 rw [hnx] at hof
 have hrl:=Qq2 r
 cases hrd:Qfk (ats m) s.1 s.2 (words m n) with
 | inr e =>
   rw [hrd] at hR hof
   obtain ⟨i,er⟩:=e
   have hne:=he0 n i er hof
   have hne':(er != 0)=true:=by simp [hne]
   simp only [QrW,QaY,X5,QU,QF,fnC,Q9,Qz,flt,inC] at hR
   refine Qh [(1,.ref (.agg (X5 m)) 0),(3,.ptr 1 v3 0),(4,.sl 2 w 0 5 r.length none),(14,.int .i64 m.syms.length),(15,.int .i64 ((n:Nat):Int))] ⟨f1,f3,f4,f14,f15,trivial⟩  20 ?_
   simp -implicitDefEqProofs (disch:=omega) only [go_sem,↓reduceIte,reduceCtorEq,rA,rq,X5,flt,QU,QF,V.cells,false_implies,and_true,hlt]
   refine Qf hT QdT hR (by simp [Qb,Qd]) 60 ?_
   simp -implicitDefEqProofs (disch:=omega) only [go_sem,↓reduceIte,reduceCtorEq,rA,rq,rT,V.cells,false_implies,true_implies,and_true,cA,nA,hne']
   exact .inl ⟨rfl,rfl,rfl,n,i,er,t+1+1,_,hof,rfl⟩
 | inl f =>
   rw [hrd] at hR hof
   have hsn:=Qvp r f
   simp only [QrW,QaY,X5,QU,QF,fnC,Q9,Qz,flt,inC,fC] at hR hsn
   refine Qh [(1,.ref (.agg (X5 m)) 0),(3,.ptr 1 v3 0),(4,.sl 2 w 0 5 r.length none),(14,.int .i64 m.syms.length),(15,.int .i64 ((n:Nat):Int))] ⟨f1,f3,f4,f14,f15,trivial⟩  20 ?_
   simp -implicitDefEqProofs (disch:=omega) only [go_sem,↓reduceIte,reduceCtorEq,rA,rq,X5,flt,QU,QF,V.cells,false_implies,and_true,hlt]
   refine Qf hT QdT hR (by simp [Qb,Qd]) 60 ?_
   simp -implicitDefEqProofs (disch:=omega) only [go_sem,↓reduceIte,reduceCtorEq,rA,rq,rL,rT,V.cells,false_implies,true_implies,true_and,and_true,cA,nA,hrl]
   refine ⟨_,_,Shift.drop (o':=[none,some (.arr v3 31 (flt 0 0 0)),some (.arr (t+1+1) 37 (Qpg (r++[f])))]) (t':=t+1+1+1) (by rw [hsn]; exact take3 _ _ _ _ _) (lR _) (zL _),t+1+1+1,t+1+1,r++[f],?_,by simp [hrn],?_⟩
   ·rw [hof]; exact Qot _ _ _
   ·simp -implicitDefEqProofs (disch:=omega) only [go_sem,↓reduceIte,rq,X5,flt,QU,QF,true_and,and_true,e2]
    try simp
theorem QmE {al:List Int} {pl F:Int} {c:List In}:∀ {ws:List Int} {i j:Nat} {e:Int},Yj al pl c F i ws=some (j,e)→e≠0
 | [],_,_,_,h=>by simp [Yj] at h
 | w::ws,i,j,e,h=>by
   unfold Yj at h
   split at h
   ·simp at h; omega
   ·split at h
    ·rename_i hne
     simp only [Option.some.injEq,Prod.mk.injEq] at h
     rw [← h.2]; exact hne
    ·exact QmE h
theorem QgV {m:Im}:∀ {l:List (List UInt8 × Int)} {n k i:Nat} {e:Int},readAll m n l=.inr (k,i,e)→e≠0
 | [],_,_,_,_,h=>by simp [readAll] at h
 | s::l,n,k,i,e,h=>by
   unfold readAll at h
   split at h
   ·rename_i i' e' he
    simp only [Sum.inr.injEq,Prod.mk.injEq] at h
    unfold Qfk at he
    split at he
    ·cases he
    ·rename_i p hp
     simp only [Sum.inr.injEq] at he
     rw [he] at hp
     rw [← h.2.2]
     exact QmE hp
   ·split at h
    ·cases h
    ·rename_i x hx
     simp only [Sum.inr.injEq] at h
     rw [h] at hx
     exact QgV hx
theorem ofV_nl (r:List Rg.Fn ⊕ (Nat × Nat × Int)):Qd (ofV r)=true:=by
 cases r <;> simp [ofV,Qad,Qd,Qb,flt]
theorem wk_no {a b c:Int}:Wk (.tup [.lst 0 [] true,.agg (flt a b c)]) (.tup [Qad [],.agg (flt a b c)]) :=
 .tup _ _ (.cons _ _ _ _ (.lst 0 5 [] [] true .nil (.inl rfl)) (.cons _ _ _ _ (.refl _) .nil))
theorem c_Of (hT:Qk Tryz.prog tab) (m:Im) (hm:ImB m) (hw:∀ w∈m.code,0≤w∧w<4294967296) (hl:m.code.length≤1000) :
 Am.Pure Tryz.prog G0 QjA [QaY m] fun v=>v=ofV (ofS m):=by
 have hR:=Qje (P:=Tryz.prog) (G:=G0) hT m hm
 have hsl:=hm.s
 simp only [QaY,X5,QU,QF] at hR
 refine Qe5 (fun t=>?_) (ofV_nl _)
 refine Qt hT QbN (by simp [Qea]) (Qn 6 ?_)
 simp -implicitDefEqProofs (disch:=omega) only [go_sem,↓reduceIte,reduceCtorEq,rq,QaY,X5,QU,QF,V.cells,and_true,cA,nA]
 refine Q8 (Shift.freeze (k:=0) (v:=t) (T:=25) (cs:=X5 m) (zL _) rfl (QiU m)) ?_
 simp only [X5,QU,QF,YG,Zd,QiX,Qaa,Xt,Ob.mapV,List.set_cons_zero,Option.map_some,Option.map_none,List.map_cons,List.map_nil]
 refine Qa 9 ?_
 simp -implicitDefEqProofs (disch:=omega) only [go_sem,↓reduceIte,reduceCtorEq,rA,rq,V.cells,false_implies,and_true]
 refine Qf hT QcG hR (by simp [Qb,Qd]) 4 ?_
 cases hr:right m with
 | false =>
   have hof:ofS m=.inr (0,0,2):=by unfold ofS; rw [hr]; rfl
   rw [hof]
   simp -implicitDefEqProofs (disch:=omega) only [go_sem,↓reduceIte,reduceCtorEq,rq]
   iterate 9 (try (refine Qa 4 ?_; simp -implicitDefEqProofs (disch:=omega) only [go_sem,↓reduceIte,reduceCtorEq,rA,rq,V.cells,false_implies,true_and,and_true,cA,nA]))
   exact .inl wk_no
 | true =>
   have hof:ofS m=readAll m 0 m.syms:=by unfold ofS; rw [hr]; rfl
   simp -implicitDefEqProofs (disch:=omega) only [go_sem,↓reduceIte,reduceCtorEq,rq]
   iterate 1 (try (refine Qa 4 ?_; simp -implicitDefEqProofs (disch:=omega) only [go_sem,↓reduceIte,reduceCtorEq,rq]))
   refine Q8 (Shift.own (s:=4) (z:=0) (sz:=5) (T:=37) (by simp -implicitDefEqProofs (disch:=omega) only [go_sem,↓reduceIte,reduceCtorEq,rq]) (by decide)) ?_
   simp -implicitDefEqProofs (disch:=omega) only [go_sem,↓reduceIte,reduceCtorEq,rA,rq,H.push]
   generalize t+1=v3
   refine Qa 12 ?_
   simp -implicitDefEqProofs (disch:=omega) only [go_sem,↓reduceIte,reduceCtorEq,rA,rq,rL,V.cells,lM,true_implies,and_true]
   refine Xn m.syms (oaJ m v3) (oaE m v3) ⟨v3+1+1,v3+1,[],by rw [hof,List.drop_zero]; cases readAll m 0 m.syms <;> rfl,rfl,?_⟩ (fun n s hs fr σ hJ=>QxA hT hm hr hw hl (fun n i e h=>by rw [hof] at h; exact QgV h) hs hJ) (fun n hn fr σ hJ=>?_) (fun e fr σ hE=>?_)
   ·simp -implicitDefEqProofs (disch:=omega) only [go_sem,↓reduceIte,reduceCtorEq,rq,X5,flt,QU,QF,true_and]
    try simp [Qpg]
   ·obtain ⟨t2,w,r,ho,hrn,f1,f3,f4,f14,f15,rfl⟩:=hJ
    rw [hn,List.drop_length] at ho
    have ho:ofS m=.inl r:=by rw [ho]; simp [readAll,Qll]
    refine Qh [(1,.ref (.agg (X5 m)) 0),(3,.ptr 1 v3 0),(4,.sl 2 w 0 5 r.length none),(14,.int .i64 m.syms.length),(15,.int .i64 ((n:Nat):Int))] ⟨f1,f3,f4,f14,f15,trivial⟩  12 ?_
    simp -implicitDefEqProofs (disch:=omega) only [go_sem,↓reduceIte,rq,X5,flt,QU,QF,hn,Nat.lt_irrefl]
    exact .inr ⟨rfl,t2,w,r,ho,rfl,rfl,rfl,rfl⟩
   ·rcases hE with ⟨rfl,f2,f3,n,i,er,t2,ex,ho,rfl⟩ | ⟨rfl,t2,w,r,ho,f1,f3,f4,rfl⟩
    ·refine Qa 12 ?_
     simp -implicitDefEqProofs (disch:=omega) only [go_sem,↓reduceIte,reduceCtorEq,rA,rq,flt,false_implies,true_and,and_true,f2,f3]
     rw [ho]
     exact .inl wk_no
    ·rw [ho]
     refine YE [(1,.ref (.agg (X5 m)) 0),(3,.ptr 1 v3 0),(4,.sl 2 w 0 5 r.length none)] ⟨f1,f3,f4,trivial⟩ 20 ?_
     simp -implicitDefEqProofs (disch:=omega) only [go_sem,↓reduceIte,reduceCtorEq,rA,rq,X5,flt,QU,QF,V.cells,false_implies,and_true,cA,nA]
     have hfz:Qaa 2 w (Qpg r) (.tup [.sl 2 w 0 5 r.length none,.agg (flt 0 0 0)])=.tup [Qad r,.agg (flt 0 0 0)]:=by
      have hle:r.length * 5≤(Qpg r).length:=by rw [Qq2]; omega
      simp [Qaa,QiX,Qcb,Qad,chunkF,hle,flt]
     refine ⟨2,w,37,Qpg r,rfl,QFV r,?_,?_⟩
     ·rw [show [V.int .i64 0,.int .i64 0,.int .i64 0]=flt 0 0 0 from rfl,hfz]; simp [Qad,Qd,Qb,flt]
     ·rw [show [V.int .i64 0,.int .i64 0,.int .i64 0]=flt 0 0 0 from rfl,hfz]; exact .refl _
end
section
attribute [local go_sem] nF nT cA lM nA aZ lR Nat.mul_one Nat.one_mul Nat.succ_ne_zero zA zL Nat.zero_mul Option.getD_none Option.getD_some Option.isSome_none Option.isSome_some V.cells and_true beq_self_eq_true bne_self_eq_false decide_false decide_true false_implies ge_iff_le gt_iff_lt inC Qw not_false_eq_true not_true_eq_false Yl QFg QFf QnN QqG QsR QFe QwW QwV QwU QsQ QsP QsO QsN true_and true_implies
def lsV (ls:List (List In)):V:=.lst 1 (ls.map Q9) false
def QEv (s:List UInt8 × Int):List V:=[.str s.1,.int .i64 s.2]
def QnC (l:List (List UInt8 × Int)):List V:=(l.map QEv).flatten
theorem Qoj (l:List (List UInt8 × Int)) (s:List UInt8 × Int):QnC (l++[s])=QnC l++QEv s:=by simp [QnC]
theorem Qkn (l:List (List UInt8 × Int)):(QnC l).length=2 * l.length:=by
 induction l with
 | nil=>rfl
 | cons x c ih =>
   show (QEv x++QnC c).length=_
   rw [lA,ih,lC]
   simp [QEv]; omega
theorem QEO (l:List (List UInt8 × Int)):Ze 2 l.length (QnC l)=l.map Qju:=by
 induction l with
 | nil=>rfl
 | cons x c ih =>
   show Ze 2 (c.length+1) (QEv x++QnC c)=_
   unfold Ze
   rw [List.map_cons,← ih]
   rfl
theorem Qvn (l:List (List UInt8 × Int)):Qb (QnC l)=true:=by
 induction l with
 | nil=>rfl
 | cons x c ih =>
   show Qb (QEv x++QnC c)=true
   rw [Yp,ih]; rfl
def QlQ (l:List Int):List V:=l.map (V.int .u32)
theorem Qvm:∀ l:List Int,Qb (QlQ l)=true
 | []=>rfl
 | n::c=>by have:=Qvm c; simpa [QlQ,Qb,Qd] using this
variable {x:In} {k i v0 v1:Nat} {l:List In}
theorem QvZ (h:l[k]?=some x):encs (l.take (k+1))=encs (l.take k)++if (enc T x).2=0 then [(enc T x).1] else []:=by
 rw [List.take_add_one,h]
 unfold encs
 rw [List.filterMap_append]
 congr 1
 simp only [Option.toList_some,List.filterMap_cons,List.filterMap_nil]
 split <;> simp_all
abbrev imH (v0 v1 ws wc:Nat) (d:Int) (S:List (List UInt8 × Int)) (C:List Int):List (Option Ob) :=
 [some (.arr v0 25 [.int .i64 0,.lst 0 [] true,.lst 0 [] true]),some (.arr v1 25 [.int .i64 d,.sl 2 ws 0 2 S.length none,.sl 3 wc 0 1 C.length none]),some (.arr ws 60 (QnC S)),some (.arr wc 43 (QlQ C))]
abbrev ikJ (ls:List (List In)) (i v0 v1:Nat) (d:Int) (S:List (List UInt8 × Int)) (C0:List Int) (l:List In):Nat→Fr→H→Prop:=fun k fr σ=>∃ t ws wc C,C=C0++encs (l.take k)∧Qg fr 0=lsV ls∧Qg fr 4=.ptr 0 v0 0∧Qg fr 5=.ptr 1 v1 0∧Qg fr 6=.int .i64 ((i:Nat):Int)∧Qg fr 7=.int .i64 ((k:Nat):Int)∧σ=⟨t,imH v0 v1 ws wc d S C⟩
abbrev ikE (ls:List (List In)) (i v0 v1:Nat) (d:Int) (S:List (List UInt8 × Int)) (C0:List Int) (l:List In):AE→Fr→H→Prop:=fun e fr σ=>∃ t ws wc C,e=.ex 2∧C=C0++encs l∧Qg fr 0=lsV ls∧Qg fr 4=.ptr 0 v0 0∧Qg fr 5=.ptr 1 v1 0∧Qg fr 6=.int .i64 ((i:Nat):Int)∧σ=⟨t,imH v0 v1 ws wc d S C⟩
variable {σ:H} {fr:Fr} {d:Int} {ls:List (List In)}
theorem Qx2 (hT:Qk Tryz.prog tab) {S:List (List UInt8 × Int)} {C0:List Int} (hi:ls[i]?=some l) (hl:l.length≤100000) (hC0:C0.length≤1000000) (hok:∀ x∈l,Zq x) (hx:l[k]?=some x) (hJ:ikJ ls i v0 v1 d S C0 l k fr σ) :
 W Tryz.prog G0 69 0 (.seq (zg QsQ [40,41,42,43,44,45] (zw 46 .skip (.exit 2))) (.seq (.block 3 (zg QsP [50,51,52,53,54,55,56,57,49,58,59] (zg QsO [60] (zw 61 (.reg QsN [62,63,64,65,66,67]) .skip)))) (.reg QnN [47,48]))) fr σ (QbQ (fun fr σ=>∃ fr' σ',Shift G0 69 0 fr σ fr' σ'∧ikJ ls i v0 v1 d S C0 l (k+1) fr' σ') (ikE ls i v0 v1 d S C0 l)):=by
 obtain ⟨t,ws,wc,C,hC,f0,f4,f5,f6,f7,rfl⟩:=hJ
 have hil:=(List.getElem?_eq_some_iff.1 hi).1
 have hlt:=(List.getElem?_eq_some_iff.1 hx).1
 have hDi:(ls.map Q9).getD i V.any=.lst 5 (l.map fun x=>V.agg (inC x)) false:=by simp [List.getD_eq_getElem?_getD,hi,Q9]
 have hDk:=Xo hx
 have hE:=Qnw hT x (hok x (List.mem_of_getElem? hx))
 have hen:=QvZ hx
 have e2:=ZT hlt (by omega)
 have hCl:C.length≤2000000:=by
  rw [hC,lA]
  have:=Qlt (l.take k)
  rw [List.length_take] at this
  omega
 simp only [inC] at hE hDi hDk
 generalize enc T x=e at *
 obtain ⟨w,er⟩:=e
 simp only at hE hen
 by_cases h0:er=0
 ·have h0':(er==0)=true:=by simp [h0]
  rw [if_pos h0] at hen
  have hsn:QlQ (C++[w])=QlQ C++[.int .u32 w]:=by simp [QlQ]
  have hln:C.length+1=(C++[w]).length:=by simp
  have hCn:C++[w]=C0++encs (l.take (k+1)):=by rw [hen,hC,aA]
  refine Qh [(0,lsV ls),(4,.ptr 0 v0 0),(5,.ptr 1 v1 0),(6,.int .i64 ((i:Nat):Int)),(7,.int .i64 ((k:Nat):Int))] ⟨f0,f4,f5,f6,f7,trivial⟩  60 ?_
  simp -implicitDefEqProofs (disch:=omega) only [go_sem,↓reduceIte,reduceCtorEq,rA,rq,lsV,hil,hlt,hDi,hDk]
  refine Qf hT Qbw hE rfl 60 ?_
  simp -implicitDefEqProofs (disch:=omega) only [go_sem,↓reduceIte,reduceCtorEq,rA,rq,rL,rT,imH,h0']
  have hrl:(QlQ C).length=C.length:=by simp [QlQ]
  iterate 4 (try (refine Qa 9 ?_; simp -implicitDefEqProofs (disch:=omega) only [go_sem,↓reduceIte,reduceCtorEq,rA,rq,rL,rT,Nat.reduceSub,Nat.reduceMul,Int.reduceToNat,Int.reduceLE,Int.reduceLT,Int.reduceEq,Int.reduceNe,Nat.reduceBEq,Nat.reduceBNe,lsV,Int.reduceBEq,Int.reduceBNe,imH,h0',hrl]))
  refine ⟨⟨hrl.symm,by omega,by omega⟩,_,_,Shift.refl _ _ _ _,t+1,ws,t,C++[w],hCn,?_⟩
  simp -implicitDefEqProofs (disch:=omega) only [go_sem,↓reduceIte,reduceCtorEq,rq,lsV,e2,imH,hsn,hln]
  try simp
 ·have h0':(er==0)=false:=by simp [h0]
  rw [if_neg h0,List.append_nil] at hen
  rw [← hen] at hC
  refine Qh [(0,lsV ls),(4,.ptr 0 v0 0),(5,.ptr 1 v1 0),(6,.int .i64 ((i:Nat):Int)),(7,.int .i64 ((k:Nat):Int))] ⟨f0,f4,f5,f6,f7,trivial⟩  60 ?_
  simp -implicitDefEqProofs (disch:=omega) only [go_sem,↓reduceIte,reduceCtorEq,rA,rq,lsV,hil,hlt,hDi,hDk]
  refine Qf hT Qbw hE rfl 60 ?_
  simp -implicitDefEqProofs (disch:=omega) only [go_sem,↓reduceIte,reduceCtorEq,rA,rq,rT,imH,h0']
  iterate 4 (try (refine Qa 9 ?_; simp -implicitDefEqProofs (disch:=omega) only [go_sem,↓reduceIte,reduceCtorEq,rA,rq,rL,rT,Nat.reduceSub,Nat.reduceMul,Int.reduceToNat,Int.reduceLE,Int.reduceLT,Int.reduceEq,Int.reduceNe,Nat.reduceBEq,Nat.reduceBNe,lsV,Int.reduceBEq,Int.reduceBNe,imH,h0']))
  refine ⟨_,_,Shift.refl _ _ _ _,t,ws,wc,C,hC,?_⟩
  simp -implicitDefEqProofs (disch:=omega) only [go_sem,↓reduceIte,reduceCtorEq,rq,lsV,e2,imH]
  try simp
theorem Qou (h:ls[i]?=some l):ZR (ls.take (i+1)) d=Qln (ZR (ls.take i) d) l:=by
 unfold ZR
 rw [List.take_add_one,h]
 simp
theorem Qnj {ls:List (List In)} {d:Int}:∀ {i:Nat},i≤ls.length→(ZR (ls.take i) d).syms.length=i∧(ZR (ls.take i) d).data=d
 | 0,_=>⟨rfl,rfl⟩
 | i+1,h=>by
   obtain ⟨l,hl⟩:∃ l,ls[i]?=some l:=⟨_,List.getElem?_eq_getElem (by omega)⟩
   rw [Qou hl]
   have:=Qnj (ls:=ls) (d:=d) (i:=i) (by omega)
   simp [Qln,this.1,this.2]
abbrev ioJ (ls:List (List In)) (v0 v1:Nat) (d:Int):Nat→Fr→H→Prop:=fun i fr σ=>∃ t ws wc S C,S=(ZR (ls.take i) d).syms∧C=(ZR (ls.take i) d).code∧C.length≤i * 1000∧Qg fr 0=lsV ls∧Qg fr 4=.ptr 0 v0 0∧Qg fr 5=.ptr 1 v1 0∧Qg fr 6=.int .i64 ((i:Nat):Int)∧σ=⟨t,imH v0 v1 ws wc d S C⟩
abbrev ioE (ls:List (List In)) (v0 v1:Nat) (d:Int):AE→Fr→H→Prop:=fun e fr σ=>∃ t ws wc,e=.ex 0∧Qg fr 4=.ptr 0 v0 0∧Qg fr 5=.ptr 1 v1 0∧σ=⟨t,imH v0 v1 ws wc d (ZR ls d).syms (ZR ls d).code⟩
theorem QxY (hT:Qk Tryz.prog tab) (hln:ls.length≤100) (hi:ls[i]?=some l) (hl:l.length≤1000) (hok:∀ x∈l,Zq x) (hJ:ioJ ls v0 v1 d i fr σ) :
 W Tryz.prog G0 69 0 (.seq (zg QwW [12,13,14] (zw 15 .skip (.exit 0))) (.seq (.block 1 (zg QwV [18,19,20,21,22,23,24,25,26,27,28,29,30,31,32,33,34,35,36,37,38,39] (zg QwU [] (.block 2 (.loop (.seq (zg QsQ [40,41,42,43,44,45] (zw 46 .skip (.exit 2))) (.seq (.block 3 (zg QsP [50,51,52,53,54,55,56,57,49,58,59] (zg QsO [60] (zw 61 (.reg QsN [62,63,64,65,66,67]) .skip)))) (.reg QnN [47,48])))))))) (.reg QqG [16,17]))) fr σ (QbQ (fun fr σ=>∃ fr' σ',Shift G0 69 0 fr σ fr' σ'∧ioJ ls v0 v1 d (i+1) fr' σ') (ioE ls v0 v1 d)):=by
 obtain ⟨t,ws,wc,S,C,hS,hC,hCl,f0,f4,f5,f6,rfl⟩:=hJ
 have hlt:=(List.getElem?_eq_some_iff.1 hi).1
 have hSl:S.length=i:=by rw [hS]; exact (Qnj (by omega)).1
 have e2:=ZT hlt (by omega)
 have hDi:(ls.map Q9).getD i V.any=.lst 5 (l.map fun x=>V.agg (inC x)) false:=by simp [List.getD_eq_getElem?_getD,hi,Q9]
 have hnx:=Qou (d:=d) hi
 have hrl:=Qkn S
 have w1:IntKind.i64.wrap (97+(i:Int).tmod 26)=((97+i % 26:Nat):Int):=by
  rw [show (i:Int).tmod 26=((i % 26:Nat):Int) by rw [Int.tmod_eq_emod_of_nonneg (by omega)]; rfl,XA (by omega)]; rfl
 have w2:IntKind.i64.wrap ((i:Int).tdiv 26)=((i / 26:Nat):Int):=by
  rw [show (i:Int).tdiv 26=((i / 26:Nat):Int) by rw [Int.tdiv_eq_ediv_of_nonneg (by omega)]; rfl,XA (by omega)]
 have w3:IntKind.i64.wrap (97+((i / 26:Nat):Int))=((97+i / 26:Nat):Int):=by rw [XA (by omega)]; rfl
 have w4:IntKind.i64.wrap (4 * (C.length:Int))=4 * (C.length:Int):=XA (by omega)
 have c32:∀ n:Nat,n<128→IntKind.i32.wrap (n:Int)=(n:Int):=fun n h=>by
  rw [X8]
  ·simp [IntKind.min,IntKind.signed,IntKind.bits]; try omega
  ·simp [IntKind.max,IntKind.signed,IntKind.bits]; try omega
 have w5:=c32 (97+i % 26) (by omega)
 have w6:=c32 (97+i / 26) (by omega)
 have b1:(0≤((97+i % 26:Nat):Int)∧((97+i % 26:Nat):Int)<128)=True:=eq_true (by omega)
 have b2:(0≤((97+i / 26:Nat):Int)∧((97+i / 26:Nat):Int)<128)=True:=eq_true (by omega)
 have hrC:(QlQ C).length=C.length:=by simp [QlQ]
 simp only [inC] at hDi
 generalize ha:97+i % 26=na at *
 generalize hb:97+i / 26=nb at *
 have t1:((na:Nat):Int).toNat=na:=rfl
 have t2:((nb:Nat):Int).toNat=nb:=rfl
 refine Qh [(0,lsV ls),(4,.ptr 0 v0 0),(5,.ptr 1 v1 0),(6,.int .i64 ((i:Nat):Int))] ⟨f0,f4,f5,f6,trivial⟩  60 ?_
 simp -implicitDefEqProofs (disch:=omega) only [go_sem,↓reduceIte,reduceCtorEq,rA,rq,rL,Int.reduceEq,lsV,hlt,imH,w1,w2,w3,w4,w5,w6,b1,b2,hrl,t1,t2]
 have hnm:nameAt i=[102,UInt8.ofNat na,UInt8.ofNat nb]:=by rw [← ha,← hb]; rfl
 have hsn:=Qoj S (nameAt i,4 * (C.length:Int))
 rw [hnm] at hsn
 simp only [QEv] at hsn
 have hSn:S++[([102,UInt8.ofNat na,UInt8.ofNat nb],4 * (C.length:Int))]=(ZR (ls.take (i+1)) d).syms:=by
  rw [hnx,← hnm]; unfold Qln; simp only; rw [← hS,← hC,hSl]
 have hCn:C++encs l=(ZR (ls.take (i+1)) d).code:=by rw [hnx]; unfold Qln; simp only; rw [← hC]
 have hle:=Qlt l
 have hln1:S.length+1=(S++[(([102,UInt8.ofNat na,UInt8.ofNat nb]:List UInt8),4 * (C.length:Int))]).length:=by simp
 refine Xn l (ikJ ls i v0 v1 d (S++[([102,UInt8.ofNat na,UInt8.ofNat nb],4 * (C.length:Int))]) C l) (ikE ls i v0 v1 d (S++[([102,UInt8.ofNat na,UInt8.ofNat nb],4 * (C.length:Int))]) C l) ⟨t+1,t,wc,C,by simp [encs],?_⟩ (fun k x hx fr σ hJ=>Qx2 hT hi (by omega) (by omega) hok hx hJ) (fun k hk fr σ hJ=>?_) (fun e fr σ hE=>?_)
 ·simp -implicitDefEqProofs (disch:=omega) only [go_sem,↓reduceIte,reduceCtorEq,rq,lsV,imH,hsn]
  try simp
 ·obtain ⟨t2,ws2,wc2,C2,hC2,f0,f4,f5,f6,f7,rfl⟩:=hJ
  rw [hk,List.take_length] at hC2
  refine Qh [(0,lsV ls),(4,.ptr 0 v0 0),(5,.ptr 1 v1 0),(6,.int .i64 ((i:Nat):Int)),(7,.int .i64 ((k:Nat):Int))] ⟨f0,f4,f5,f6,f7,trivial⟩  60 ?_
  simp -implicitDefEqProofs (disch:=omega) only [go_sem,↓reduceIte,reduceCtorEq,rq,lsV,hlt,hDi,hk,Nat.lt_irrefl]
  exact ⟨t2,ws2,wc2,C2,rfl,hC2,rfl,rfl,rfl,rfl,rfl⟩
 ·obtain ⟨t2,ws2,wc2,C2,rfl,hC2,f0,f4,f5,f6,rfl⟩:=hE
  refine Qa3 [(0,lsV ls),(4,.ptr 0 v0 0),(5,.ptr 1 v1 0),(6,.int .i64 ((i:Nat):Int))] ⟨f0,f4,f5,f6,trivial⟩ 12 ?_
  simp -implicitDefEqProofs (disch:=omega) only [go_sem,↓reduceIte,reduceCtorEq,rq,lsV,e2]
  refine ⟨_,_,Shift.refl _ _ _ _,t2,ws2,wc2,_,C2,hSn,by rw [hC2]; exact hCn,by rw [hC2,lA]; omega,?_⟩
  simp -implicitDefEqProofs (disch:=omega) only [go_sem,↓reduceIte,reduceCtorEq,rq,lsV,imH]
  try simp
end
section
attribute [local go_sem] nF cA lM nA lR zA zL V.cells and_true decide_false false_implies lsV Yl QFg QFf QnN QqG QsR QFe QwW QwV QwU QsQ QsP QsO QsN true_and
theorem Qxl {k w:Nat} {cs:List V} (l:List Int):(QlQ l).map (Qaa k w cs)=QlQ l:=by simp [QlQ,Qaa]
variable {d:Int} {ls:List (List In)}
theorem QyC (hT:Qk Tryz.prog tab) (hln:ls.length≤100) (hl:∀ l∈ls,l.length≤1000) (hok:∀ l∈ls,∀ x∈l,Zq x) (t:Nat) :
 C Tryz.prog G0 0 Y4 [lsV ls,.int .i64 d] ⟨t,[]⟩ fun v σ=>∃ t' ws wc A B,v=.agg [.int .i64 d,.sl 2 ws 0 2 (ZR ls d).syms.length none,.sl 3 wc 0 1 (ZR ls d).code.length none]∧σ=⟨t',[A,B,some (.arr ws 60 (QnC (ZR ls d).syms)),some (.arr wc 43 (QlQ (ZR ls d).code))]⟩:=by
 refine Qt hT QY (by simp [Yl]) (Qn 11 ?_)
 simp -implicitDefEqProofs (disch:=omega) only [go_sem,↓reduceIte,reduceCtorEq,rA,rq,rL,H.push]
 refine Q8 (HShift.shift (HShift.ownAt 2 60 (base:=0) (k:=1) (v:=t+1) (T':=25) (p:=1) (z:=0) (cs:=[.int .i64 d,.lst 0 [] true,.lst 0 [] true]) (zL _) rfl rfl)) ?_
 simp only [List.set_cons_succ,List.set_cons_zero,lC,lN,cA,nA]
 refine Q8 (HShift.shift (HShift.ownAt 1 43 (base:=0) (k:=1) (v:=t+1) (T':=25) (p:=2) (z:=0) (cs:=[.int .i64 d,.sl 2 (t+1+1) 0 2 0 none,.lst 0 [] true]) (zL _) rfl rfl)) ?_
 simp only [List.set_cons_succ,List.set_cons_zero,lC,lN,cA,nA]
 generalize t+1=v1
 refine Qa 12 ?_
 simp -implicitDefEqProofs (disch:=omega) only [go_sem,↓reduceIte,reduceCtorEq,rA,rq]
 refine Xn ls (ioJ ls t v1 d) (ioE ls t v1 d) ⟨v1+1+1+1,v1+1,v1+1+1,[],[],rfl,rfl,by simp,?_⟩ (fun i l hi fr σ hJ=>QxY hT hln hi (hl l (List.mem_of_getElem? hi)) (hok l (List.mem_of_getElem? hi)) hJ) (fun i hi fr σ hJ=>?_) (fun e fr σ hE=>?_)
 ·simp -implicitDefEqProofs (disch:=omega) only [go_sem,↓reduceIte,reduceCtorEq,rq,imH]
  try simp [QnC,QlQ]
 ·obtain ⟨t2,ws,wc,S,C,hS,hC,hCl,f0,f4,f5,f6,rfl⟩:=hJ
  rw [hi,List.take_length] at hS hC
  subst hS hC
  refine Qh [(0,lsV ls),(4,.ptr 0 t 0),(5,.ptr 1 v1 0),(6,.int .i64 ((i:Nat):Int))] ⟨f0,f4,f5,f6,trivial⟩  12 ?_
  simp -implicitDefEqProofs (disch:=omega) only [go_sem,↓reduceIte,reduceCtorEq,rq,hi,Nat.lt_irrefl]
  exact ⟨t2,ws,wc,rfl,rfl,rfl,rfl⟩
 ·obtain ⟨t2,ws,wc,rfl,f4,f5,rfl⟩:=hE
  refine YE [(4,.ptr 0 t 0),(5,.ptr 1 v1 0)] ⟨f4,f5,trivial⟩ 20 ?_
  simp -implicitDefEqProofs (disch:=omega) only [go_sem,↓reduceIte,reduceCtorEq,rA,rq,imH]
  exact ⟨t2,ws,wc,_,_,rfl,rfl,rfl⟩
theorem Qwn (hT:Qk Tryz.prog tab) (hln:ls.length≤100) (hl:∀ l∈ls,l.length≤1000) (hok:∀ l∈ls,∀ x∈l,Zq x) :
 Am.Pure Tryz.prog G0 Y4 [lsV ls,.int .i64 d] fun v=>v=QaY (ZR ls d):=by
 intro t
 have hdat:(ZR ls d).data=d:=by have:=(Qnj (ls:=ls) (d:=d) (i:=ls.length) (lR _)).2; rwa [List.take_length] at this
 refine (Qeq (Q:=fun v σ=>∃ t' wc A B,v=.agg [.int .i64 d,QU (ZR ls d).syms,.sl 3 wc 0 1 (ZR ls d).code.length none]∧σ=⟨t',[A,B,none,some (.arr wc 43 (QlQ (ZR ls d).code))]⟩) (Qeq (QyC hT hln hl hok t) fun v σ hv=>?_) fun v σ hv=>?_).conseq fun v σ hv=>hv
 ·obtain ⟨t',ws,wc,A,B,rfl,rfl⟩:=hv
  have hle:(ZR ls d).syms.length * 2≤(QnC (ZR ls d).syms).length:=by rw [Qkn]; omega
  refine .inr ⟨2,ws,60,QnC (ZR ls d).syms,zL _,rfl,Qvn _,?_⟩
  refine ⟨t',wc,_,_,?_,by simp [Xt,Ob.mapV,Qxl]; exact ⟨rfl,rfl⟩⟩
  simp [Qaa,QiX,Qcb,QU,QEO,hle]
 ·obtain ⟨t',wc,A,B,rfl,rfl⟩:=hv
  have hlu:(QlQ (ZR ls d).code).length=(ZR ls d).code.length:=by simp [QlQ]
  refine .inr ⟨3,wc,43,QlQ (ZR ls d).code,zL _,rfl,Qvm _,?_,?_⟩
  ·simp [Qaa,QiX,Qcb,QU,Qd,Qb,hlu]
  ·have hle:(ZR ls d).code.length≤(QlQ (ZR ls d).code).length:=by rw [hlu]; exact lR _
   have ht:List.take (ZR ls d).code.length (QlQ (ZR ls d).code)=QlQ (ZR ls d).code:=List.take_of_length_le (by rw [hlu]; exact lR _)
   simp [Qaa,QiX,Qcb,QU,QaY,X5,QF,hdat,hle,ht]
   rfl
end
variable {P:Program} {G:Nat→Option V}
section
attribute [local go_sem] nF cA nA lR Nat.succ_ne_zero zA zL V.cells and_true Qz decide_false decide_true false_implies inC Qq Qw YP zqf_0 zqf_1 YO zqh_0 zqh_1 YZ zq6_0 zq6_1 zq6_2 zq6_3 zq6_4 zq6_5 zq6_6 true_and true_implies
theorem Qhq (hT:Qk P tab) (rd rs n:Int):Am.Pure P G Qb0 [.int .u8 rd,.int .u8 rs,.int .i64 n] fun v=>v=.agg (inC ⟨22,rd,rs,0,n⟩):=by
 intro t
 refine Qp 0 (zL _) (Qt hT Qi (by simp [YP]) (Qn 20 ?_))
 simp -implicitDefEqProofs (disch:=omega) only [go_sem,↓reduceIte,reduceCtorEq,rA,rq,rL]
theorem c_jr (hT:Qk P tab):Am.Pure P G QbZ [] fun v=>v=.agg (inC jr):=by
 intro t
 refine Qp 0 (zL _) (Qt hT QC (by simp [YO]) (Qn 20 ?_))
 simp -implicitDefEqProofs (disch:=omega) only [go_sem,↓reduceIte,reduceCtorEq,rA,rq,rL,jr]
theorem c_has (hT:Qk P tab) (l:List Int) (a:Int) (hl:l.length≤1000000):Am.Pure P G QcE [Qz l,.int .i64 a] fun v=>v=.bool (decide (a∈l)):=by
 intro t
 refine Qp 0 (zL _) (Qt hT Qcz (by simp [YZ]) (Qn 1000 ?_))
 simp -implicitDefEqProofs (disch:=omega) only [go_sem,↓reduceIte,reduceCtorEq,rq]
 refine Xn l (fun i fr σ=>a ∉ l.take i∧Qg fr 0=.lst 1 (ints l) false∧Qg fr 1=.int .i64 a∧Qg fr 5=.int .i64 ((i:Nat):Int)∧σ=⟨t,[]⟩)
  (fun e fr σ=>σ=⟨t,[]⟩∧((e=.ret∧a∈l∧Qg fr 4=.bool true)∨(e=.ex 0∧a ∉ l))) ⟨by simp,?_⟩ (fun i x hx fr σ hJ=>?_) (fun i hi fr σ hJ=>?_) (fun e fr σ hE=>?_)
 ·simp -implicitDefEqProofs (disch:=omega) only [go_sem,↓reduceIte,reduceCtorEq,rq]
  try simp
 ·obtain ⟨hno,f0,f1,f5,rfl⟩:=hJ
  have hlt:=(List.getElem?_eq_some_iff.1 hx).1
  have hD:=Qdd hx
  have e2:=ZT hlt (by omega)
  refine Qn 1000 ?_
  by_cases he:x=a
  ·have he':(x==a)=true:=by simp [he]
   simp -implicitDefEqProofs (disch:=omega) only [go_sem,↓reduceIte,reduceCtorEq,rq,f0,f1,f5,hlt,hD,he']
   exact he▸List.mem_of_getElem? hx
  ·have he':(x==a)=false:=by simp [he]
   simp -implicitDefEqProofs (disch:=omega) only [go_sem,↓reduceIte,reduceCtorEq,rq,f0,f1,f5,hlt,hD,he']
   refine ⟨_,_,Shift.refl _ _ _ _,?_,?_⟩
   ·rw [List.take_add_one,hx]; simp [hno,Ne.symm he]
   ·simp -implicitDefEqProofs (disch:=omega) only [go_sem,↓reduceIte,reduceCtorEq,rq,f0,f1,e2]
 ·obtain ⟨hno,f0,f1,f5,rfl⟩:=hJ
  rw [hi,List.take_length] at hno
  refine Qn 1000 ?_
  simp -implicitDefEqProofs (disch:=omega) only [go_sem,↓reduceIte,reduceCtorEq,rq,f0,f5,hi,Nat.lt_irrefl]
  exact hno
 ·obtain ⟨rfl,hE⟩:=hE
  rcases hE with ⟨rfl,hm,f4⟩ | ⟨rfl,hno⟩
  ·refine Qa 1000 ?_
   simp -implicitDefEqProofs (disch:=omega) only [go_sem,f4]
   simp [hm]
  ·refine Qa 1000 ?_
   simp -implicitDefEqProofs (disch:=omega) only [go_sem,↓reduceIte]
   simp [hno]
def onV:List Rg.Fn ⊕ (Nat × Nat × Int)→V
 | .inl [f]=>.tup [.agg (fC f),.agg (flt 0 0 0)]
 | .inl _=>.tup [.agg (fnC [] 0 [] 0 []),.agg (flt 0 0 0)]
 | .inr e=>.tup [.agg (fnC [] 0 [] 0 []),.agg (flt e.1 e.2.1 e.2.2)]
theorem onV_nl (r:List Rg.Fn ⊕ (Nat × Nat × Int)):Qd (onV r)=true:=by
 unfold onV; split <;> simp [Qd,Qb,fC,Qfl,flt]
theorem enc_u {l:List In}:∀ w∈encs l,∃ x∈l,enc T x=(w,0):=fun w hw=>by
 unfold encs at hw
 obtain ⟨x,hx,he⟩:=List.mem_filterMap.1 hw
 split at he
 ·rename_i h0
  simp only [Option.some.injEq] at he
  exact ⟨x,hx,by rw [← he,← h0]⟩
 ·cases he
end
end Go.Proofs.YtaidbdgndljaeaaGreatDoor
namespace Go.Proofs.YtaidbdgndljaeaaGreatDoor
open Go Go.Am Go.Rv Go.Rg
set_option maxRecDepth 100000
section
attribute [local go_sem] nF cA lM nA lR zA zL V.cells and_true Qz fC false_implies flt fnC inC Q9 not_false_eq_true not_true_eq_false Zc zqi_0 zqi_1 zqi_2 zqi_3 zqi_4 true_and true_implies
theorem QGo (l:List In):ZR [l] 0=⟨0,[(nameAt 0,0)],encs l⟩:=Qrj l 0
variable {l:List In}
theorem img1_B (hl:l.length≤1000):ImB (ZR [l] 0):=by
 rw [QGo]
 exact ⟨by simp,by have:=Qlt l; simp; omega,by simp [nameAt]⟩
theorem enc_b (hok:∀ x∈l,Zq x):∀ w∈encs l,0≤w∧w<4294967296:=fun w hw=>by
 obtain ⟨x,hx,he⟩:=enc_u w hw
 have:=hok x hx
 obtain ⟨h1,h2,_⟩:=QeJ he this.2.1.1 this.2.2.1.1 this.2.2.2.1.1
 exact ⟨h1,h2⟩
theorem Qu6 {a b c:Int}:Wk (.tup [.agg zF,.agg (flt a b c)]) (.tup [.agg (fnC [] 0 [] 0 []),.agg (flt a b c)]):=.tup _ _ (.cons _ _ _ _ wk_zF (.cons _ _ _ _ (.refl _) .nil))
theorem c_of0 (hT:Qk Tryz.prog tab) (l:List In) (hl:l.length≤1000) (hok:∀ x∈l,Zq x):Am.Pure Tryz.prog G0 Zo [Q9 l] fun v=>Wk v (onV (ofS (ZR [l] 0))):=by
 intro t
 have hI:=Pure.args (.cons _ _ _ _ (.lst 1 1 _ _ true (WkL.refl _) (.inr rfl)) (.cons _ _ _ _ (.refl _) .nil)) (Qwn (ls:=[l]) (d:=0) hT (by simp) (by simpa using hl) (by simpa using hok))
 have hO:=c_Of hT (ZR [l] 0) (img1_B hl) (by rw [QGo]; exact enc_b hok) (by rw [QGo]; have:=Qlt l; simp; omega)
 have hin:=Qbv (ZR [l] 0)
 generalize ZR [l] 0=m at *
 simp only [Q9,inC,List.map_cons,List.map_nil,QaY,X5,QU,QF] at hI hO hin
 have h01:(((0:Nat):Int)=1)=False:=eq_false (by decide)
 have h11:(((1:Nat):Int)=1)=True:=eq_true (by decide)
 have l01:((0:Int)<((1:Nat):Int))=True:=eq_true (by decide)
 refine Qp 0 (zL _) (Qt hT Xf (by simp [Zc]) (Qn 20 ?_))
 simp -implicitDefEqProofs (disch:=omega) only [go_sem,↓reduceIte,reduceCtorEq,rq]
 refine Qf hT QY hI (by simp [Qb,Qd]) 20 ?_
 simp -implicitDefEqProofs (disch:=omega) only [go_sem,↓reduceIte,reduceCtorEq,rq]
 refine Qf hT QbN hO hin 30 ?_
 cases hr:ofS m with
 | inr e =>
   simp only [ofV,Qad,onV,List.map_nil]
   simp -implicitDefEqProofs (disch:=omega) only [go_sem,↓reduceIte,reduceCtorEq,rA,rq,rT,Int.reduceToNat,Int.reduceLE,lN,h01]
   exact Qu6
 | inl r =>
   cases r with
   | nil =>
     simp only [ofV,Qad,onV,List.map_nil]
     simp -implicitDefEqProofs (disch:=omega) only [go_sem,↓reduceIte,reduceCtorEq,rA,rq,rT,Int.reduceToNat,Int.reduceLE,lN,h01]
     exact Qu6
   | cons f r =>
     cases r with
     | nil =>
       simp only [ofV,Qad,onV,List.map_nil,List.map_cons]
       simp -implicitDefEqProofs (disch:=omega) only [go_sem,↓reduceIte,reduceCtorEq,rA,rq,rT,Int.reduceToNat,Int.reduceLE,lN,lC,h11]
       exact .refl _
     | cons g r =>
       simp only [ofV,Qad,onV,List.map_cons]
       have hk:(((r.length+1+1:Nat):Int)=1)=False:=eq_false (by omega)
       simp -implicitDefEqProofs (disch:=omega) only [go_sem,↓reduceIte,reduceCtorEq,rA,rq,rT,Int.reduceToNat,Int.reduceLE,lN,lC,hk]
       exact Qu6
theorem c_ofL (hT:Qk Tryz.prog tab) (l:List In) (hl:l.length≤1000) (hok:∀ x∈l,Zq x):Am.Pure Tryz.prog G0 Zo [Q9 l] fun v=>v=onV (ofS (ZR [l] 0)):=fun t =>
 QyO (c_of0 hT l hl hok t) fun v σ ⟨_,h⟩=>⟨_,h,onV_nl _,rfl⟩
end
variable {P:Program} {G:Nat→Option V}
section
attribute [local go_sem] lR zA zL and_true bne_self_eq_false decide_false decide_true false_implies Qq Qw not_false_eq_true not_true_eq_false Yf zqb_0 zqb_1 zqb_2 zqb_3 QFd QFc QFb QFa zqb_8 true_and true_implies
abbrev siJ (t:Nat) (a b:List Int):Nat→Fr→H→Prop:=fun m fr σ=>∃ i,i≤a.length∧m=a.length - i∧a.take i=b.take i∧Qg fr 0=.lst 1 (ints a) false∧Qg fr 1=.lst 1 (ints b) false∧Qg fr 5=.int .i64 ((i:Nat):Int)∧σ=⟨t,[]⟩
abbrev siE (t:Nat) (a b:List Int):AE→Fr→H→Prop:=fun e fr σ=>(e=.ret∧Qg fr 4=.bool false∧a≠b)∨(e=.ex 0∧a=b)
theorem Qxh (hT:Qk P tab) {t:Nat} {a b:List Int} (hab:a.length=b.length) (hl:a.length≤9223372036854775807) {m:Nat} {fr:Fr} {σ:H} (hJ:siJ t a b m fr σ) :
 W P G 26 0 (.seq (zg QFd [11,12,13] (zw 14 .skip (.exit 0))) (.seq (.block 1 (zg QFc [17,18,19,20,21,22,23,24] (zw 25 (zg QFb [] .ret) .skip))) (.reg QFa [15,16]))) fr σ (QbQ (fun fr σ=>∃ m' fr' σ',m'<m∧Shift G 26 0 fr σ fr' σ'∧siJ t a b m' fr' σ') (siE t a b)):=by
 obtain ⟨i,hi,rfl,heq,f0,f1,f5,rfl⟩:=hJ
 rcases Nat.lt_or_ge i a.length with hlt | hge
 ·obtain ⟨x,hx⟩:∃ x,a[i]?=some x:=⟨_,List.getElem?_eq_getElem hlt⟩
  obtain ⟨y,hy⟩:∃ y,b[i]?=some y:=⟨_,List.getElem?_eq_getElem (by omega)⟩
  have hltb:i<b.length:=by omega
  have hD1:=Qdd hx
  have hD2:=Qdd hy
  have e2:=ZT hlt hl
  by_cases hxy:x=y
  ·subst hxy
   have hb:(x==x)=true:=by simp
   refine Qh [(0,.lst 1 (ints a) false),(1,.lst 1 (ints b) false),(5,.int .i64 ((i:Nat):Int))] ⟨f0,f1,f5,trivial⟩  1000 ?_
   simp -implicitDefEqProofs (disch:=omega) only [go_sem,↓reduceIte,reduceCtorEq,rq,hlt,hltb,hD1,hD2]
   refine ⟨a.length - (i+1),_,_,by omega,Shift.refl _ _ _ _,i+1,by omega,rfl,by rw [ZW hx,ZW hy,heq],?_⟩
   simp -implicitDefEqProofs (disch:=omega) only [go_sem,↓reduceIte,reduceCtorEq,rq,e2]
  ·have hb:(x=y)=False:=eq_false hxy
   have hne:a≠b:=fun e=>by rw [e,hy] at hx; exact hxy (Option.some.inj hx).symm
   refine Qh [(0,.lst 1 (ints a) false),(1,.lst 1 (ints b) false),(5,.int .i64 ((i:Nat):Int))] ⟨f0,f1,f5,trivial⟩  1000 ?_
   simp -implicitDefEqProofs (disch:=omega) only [go_sem,↓reduceIte,reduceCtorEq,rq,hlt,hltb,hD1,hD2,hb]
   exact .inl ⟨rfl,rfl,hne⟩
 ·have hi:i=a.length:=by omega
  rw [hi,List.take_length,hab,List.take_length] at heq
  refine Qh [(0,.lst 1 (ints a) false),(1,.lst 1 (ints b) false),(5,.int .i64 ((i:Nat):Int))] ⟨f0,f1,f5,trivial⟩  1000 ?_
  simp -implicitDefEqProofs (disch:=omega) only [go_sem,↓reduceIte,reduceCtorEq,rq,hi,Nat.lt_irrefl]
  exact .inr ⟨rfl,heq⟩
theorem Qjd (hT:Qk P tab) (a b:List Int) (hl:a.length≤9223372036854775807) (hl':b.length≤9223372036854775807) :
 Am.Pure P G Qbd [Qz a,Qz b] fun u=>u=.bool (decide (a=b)):=by
 intro t
 simp only [Qz]
 refine Qp 0 (zL _) (Qt hT YD (by simp [Yf]) (Qn 1000 ?_))
 by_cases h:a.length=b.length
 ·have h':((a.length:Int)=(b.length:Int))=True:=eq_true (by omega)
  simp -implicitDefEqProofs (disch:=omega) only [go_sem,↓reduceIte,reduceCtorEq,rq,h']
  refine QcH (siJ t a b) (siE t a b) (m0:=a.length) ⟨0,by omega,rfl,by simp,?_⟩ (fun m fr σ hJ=>Qxh hT h hl hJ) (fun e fr σ hE=>?_)
  ·simp -implicitDefEqProofs (disch:=omega) only [go_sem,↓reduceIte,reduceCtorEq,rq]
   rfl
  ·rcases hE with ⟨rfl,f4,hh⟩ | ⟨rfl,hh⟩
   ·refine Qa 1000 ?_
    simp -implicitDefEqProofs (disch:=omega) only [go_sem,f4,hh]
   ·refine Qa 1000 ?_
    simp -implicitDefEqProofs (disch:=omega) only [go_sem,↓reduceIte,hh]
 ·have h':((a.length:Int)=(b.length:Int))=False:=eq_false (by omega)
  have hne:a≠b:=fun e=>h (by rw [e])
  simp -implicitDefEqProofs (disch:=omega) only [go_sem,↓reduceIte,reduceCtorEq,rq,h',hne]
end
end Go.Proofs.YtaidbdgndljaeaaGreatDoor
