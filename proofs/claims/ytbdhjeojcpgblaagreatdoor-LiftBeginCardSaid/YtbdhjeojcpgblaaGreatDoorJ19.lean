/- Ours. -/
import Derived.Test.YtbdhjeojcpgblaaGreatDoorJ18
import Derived.Test.YtbdhjeojcpgblaaGreatDoorJ13
import Derived.Test.YtbdhjeojcpgblaaGreatDoorAmD
import Derived.KernelRfl
import Derived.Test.YtbdhjeojcpgblaaGreatDoorJ17
import Derived.Test.YtbdhjeojcpgblaaGreatDoorY
open Nat renaming reduceEqDiff → rq, reduceAdd → rA, reduceLeDiff → rL, reduceLT → rT, zero_add → zA, le_refl → lR, zero_le → zL, add_zero → aZ
open List renaming length_cons → lC, length_nil → lN, take_succ_cons → tSq, length_append → lA, nil_append → nA, cons_append → cA, append_assoc → aA, take_nil → tN, take_zero → tZ, length_map → lM
open Bool renaming not_false → nF, not_true → nT
namespace Go.Proofs.YtbdhjeojcpgblaaGreatDoor
open Go Go.Am Go.Rv Go.Rg
set_option maxRecDepth 100000
variable {P:Program} {G:Nat→Option V}
set_option maxHeartbeats 4000000
section
attribute [local go_sem] nF aA cA List.getD_cons_succ List.getD_cons_zero lA lC lN nA tN tSq tZ aZ lR Nat.mul_one zA zL and_true bne_self_eq_false decide_false decide_true false_implies QcR zqt_0 zqt_1 zqt_2 zqt_3 zqt_4 zqt_5 zqt_6 QiM zqx_0 zqx_1 zqx_2 zqx_3 Qu true_and true_implies
section
variable {α:Type} {o l:List α} {a b c d e x:α}
theorem oa0:(o++a::l)[o.length]?=some a:=by simp
theorem oa1:(o++a::b::l)[o.length+1]?=some b:=by rw [List.getElem?_append_right (by omega)]; simp
theorem oa2:(o++a::b::c::l)[o.length+2]?=some c:=by rw [List.getElem?_append_right (by omega)]; simp
theorem os0:(o++a::l).set o.length x=o++x::l:=by simp
theorem os1:(o++a::b::l).set (o.length+1) x=o++a::x::l:=by rw [List.set_append_right _ _ (by omega)]; simp
theorem os2:(o++a::b::c::l).set (o.length+2) x=o++a::b::x::l:=by rw [List.set_append_right _ _ (by omega)]; simp
theorem ot0:(o++l).take o.length=o:=by simp
end
def sC (rs:List Int) (sl:V) (sure:Bool):List V:=Xg rs++[sl,.bool sure]
variable {rs:List Int}
theorem QoQ (hr:rs.length=32) (sl:V) (sure:Bool):(sC rs sl sure).length=34:=by simp [sC,Xg,hr]
variable {sure:Bool} {sl:V}
theorem QfN (h:ones [sl,.bool sure]):ones (sC rs sl sure)=True:=eq_true fun u hu=>by
 unfold sC at hu
 rcases List.mem_append.1 hu with hu | hu
 ·unfold Xg at hu; obtain ⟨r,_,rfl⟩:=List.mem_map.1 hu; rfl
 ·exact h u hu
variable {k:Nat}
theorem sC_put (hk:k<rs.length) (id:Int):(sC rs sl sure).take k++V.int .i64 id::(sC rs sl sure).drop (k+1)=sC (rs.set k id) sl sure:=by
 unfold sC Xg
 rw [List.take_append_of_le_length (by simp; omega),List.drop_append_of_le_length (by simp; omega),← cA,← aA,← List.map_take,← List.map_drop]
 congr 1
 rw [List.set_eq_take_append_cons_drop,if_pos hk]
 simp
theorem QoR {x:Int} (h:rs[k]?=some x):(sC rs sl sure).getD k V.any=.int .i64 x:=by
 have hk:=(List.getElem?_eq_some_iff.1 h).1
 unfold sC Xg
 rw [List.getD_eq_getElem?_getD,List.getElem?_append_left (by simpa using hk)]
 simp [h]
def Qwj (rs:List Int) (rd id:Int):List Int:=if rd≠0∧rd<32 then rs.set rd.toNat id else rs
theorem c_put (hT:Qf P tab) {base t:Nat} {o:List (Option Ob)} (hb:base≤o.length) (hr:rs.length=32) (hsl:ones [sl,.bool sure]) {rd id:Int} (h0:0≤rd) :
 C P G base Qo1 [.agg (sC rs sl sure),.int .u8 rd,.int .i64 id] ⟨t,o⟩ fun v σ=>v=.tup [.agg (sC (Qwj rs rd id) sl sure),eff 0 0 0 (-1) (-1) 0]∧∃ t',t≤t'∧σ=⟨t',o⟩:=by
 have hN:=QQk (P:=P) (G:=G) hT 0
 simp only [eff] at hN ⊢
 have hlen:=QoQ hr sl sure
 have hone:=QfN (rs:=rs) hsl
 have htk:(sC rs sl sure).take 34=sC rs sl sure:=List.take_of_length_le (by omega)
 have hput:=fun k (hk:k<rs.length)=>sC_put (sl:=sl) (sure:=sure) hk id
 have hlen2:=fun k=>QoQ (rs:=rs.set k id) (by simpa using hr) sl sure
 have hone2:=fun k=>QfN (rs:=rs.set k id) hsl
 have htk2:=fun k=>List.take_of_length_le (l:=sC (rs.set k id) sl sure) (i:=34) (by rw [hlen2]; omega)
 refine Qi o.length hb (Qk hT QoN (by simp [QiM]) (Qg 1000 ?_))
 by_cases h1:rd=0
 ·subst h1
  simp only [Qwj,ne_eq,not_true_eq_false,false_and,if_false]
  obtain ⟨sc,hsc⟩:∃ sc,sc=sC rs sl sure:=⟨_,rfl⟩
  rw [← hsc] at hlen hone htk ⊢
  simp -implicitDefEqProofs (disch:=omega) only [go_sem,↓reduceIte,reduceCtorEq,rA,rq,oa0,hlen,hone,htk]
  refine Qj hT Qcz hN (by simp [Qb,Qd]) 1000 ?_
  simp -implicitDefEqProofs (disch:=omega) only [go_sem,↓reduceIte,reduceCtorEq,rA,rq,oa1,oa2,os1,os2,ot0,hlen,hone,htk]
  exact ⟨by omega,_,by omega,rfl⟩
 have h1':(rd != 0)=true:=by simp [h1]
 by_cases h2:rd<32
 ·have h2':decide (rd<32)=true:=decide_eq_true h2
  obtain ⟨k,rfl⟩:∃ k:Nat,rd=k:=⟨rd.toNat,by omega⟩
  have hk:k<rs.length:=by omega
  have e1:Qwj rs k id=rs.set k id:=by unfold Qwj; rw [if_pos ⟨h1,h2⟩]; rfl
  have hp:=hput k hk
  have l2:=hlen2 k
  have o2:=hone2 k
  have t2:=htk2 k
  rw [e1]
  obtain ⟨sc2,hsc2⟩:∃ sc,sc=sC (rs.set k id) sl sure:=⟨_,rfl⟩
  obtain ⟨sc,hsc⟩:∃ sc,sc=sC rs sl sure:=⟨_,rfl⟩
  rw [← hsc2] at hp l2 o2 t2 ⊢
  rw [← hsc] at hlen hone htk hp ⊢
  simp -implicitDefEqProofs (disch:=omega) only [go_sem,↓reduceIte,reduceCtorEq,rA,rq,rL,oa0,os0,hlen,hone,h1',h2,hp,l2,t2]
  refine Qj hT Qcz hN (by simp [Qb,Qd]) 1000 ?_
  simp -implicitDefEqProofs (disch:=omega) only [go_sem,↓reduceIte,reduceCtorEq,rA,rq,oa1,oa2,os1,os2,ot0,l2,o2,t2]
  exact ⟨by omega,_,by omega,rfl⟩
 ·have h2':decide (rd<32)=false:=decide_eq_false h2
  have e1:Qwj rs rd id=rs:=by unfold Qwj; rw [if_neg fun h=>h2 h.2]
  rw [e1]
  obtain ⟨sc,hsc⟩:∃ sc,sc=sC rs sl sure:=⟨_,rfl⟩
  rw [← hsc] at hlen hone htk ⊢
  simp -implicitDefEqProofs (disch:=omega) only [go_sem,↓reduceIte,reduceCtorEq,rA,rq,oa0,hlen,hone,htk,h1',h2]
  refine Qj hT Qcz hN (by simp [Qb,Qd]) 1000 ?_
  simp -implicitDefEqProofs (disch:=omega) only [go_sem,↓reduceIte,reduceCtorEq,rA,rq,oa1,oa2,os1,os2,ot0,hlen,hone,htk]
  exact ⟨by omega,_,by omega,rfl⟩
section
variable {fmt:Int→List UInt8} {v0 v1 v2 v3 v4:Nat} {L:List Nd} {ex zs:List (Option Ob)} {y0 y1 y2 y3 y4 y5 y6 x:Option Ob}
theorem kxa2:(kG fmt v0 v1 v2 v3 v4 L++(ex++y0::y1::y2::zs))[5+(ex.length+2)]?=some y2:=by
 rw [List.getElem?_append_right (by rw [Qh]; omega),Qh,List.getElem?_append_right (by omega),show 5+(ex.length+2) - 5 - ex.length=2 by omega]; rfl
theorem kxs2:(kG fmt v0 v1 v2 v3 v4 L++(ex++y0::y1::y2::zs)).set (5+(ex.length+2)) x=kG fmt v0 v1 v2 v3 v4 L++(ex++y0::y1::x::zs):=by
 rw [List.set_append_right _ _ (by rw [Qh]; omega),Qh,List.set_append_right _ _ (by omega),show 5+(ex.length+2) - 5 - ex.length=2 by omega]; rfl
theorem kxa3:(kG fmt v0 v1 v2 v3 v4 L++(ex++y0::y1::y2::y3::zs))[5+(ex.length+3)]?=some y3:=by
 rw [List.getElem?_append_right (by rw [Qh]; omega),Qh,List.getElem?_append_right (by omega),show 5+(ex.length+3) - 5 - ex.length=3 by omega]; rfl
theorem kxs3:(kG fmt v0 v1 v2 v3 v4 L++(ex++y0::y1::y2::y3::zs)).set (5+(ex.length+3)) x=kG fmt v0 v1 v2 v3 v4 L++(ex++y0::y1::y2::x::zs):=by
 rw [List.set_append_right _ _ (by rw [Qh]; omega),Qh,List.set_append_right _ _ (by omega),show 5+(ex.length+3) - 5 - ex.length=3 by omega]; rfl
theorem kxa4:(kG fmt v0 v1 v2 v3 v4 L++(ex++y0::y1::y2::y3::y4::zs))[5+(ex.length+4)]?=some y4:=by
 rw [List.getElem?_append_right (by rw [Qh]; omega),Qh,List.getElem?_append_right (by omega),show 5+(ex.length+4) - 5 - ex.length=4 by omega]; rfl
theorem kxs4:(kG fmt v0 v1 v2 v3 v4 L++(ex++y0::y1::y2::y3::y4::zs)).set (5+(ex.length+4)) x=kG fmt v0 v1 v2 v3 v4 L++(ex++y0::y1::y2::y3::x::zs):=by
 rw [List.set_append_right _ _ (by rw [Qh]; omega),Qh,List.set_append_right _ _ (by omega),show 5+(ex.length+4) - 5 - ex.length=4 by omega]; rfl
theorem kxa5:(kG fmt v0 v1 v2 v3 v4 L++(ex++y0::y1::y2::y3::y4::y5::zs))[5+(ex.length+5)]?=some y5:=by
 rw [List.getElem?_append_right (by rw [Qh]; omega),Qh,List.getElem?_append_right (by omega),show 5+(ex.length+5) - 5 - ex.length=5 by omega]; rfl
theorem kxs5:(kG fmt v0 v1 v2 v3 v4 L++(ex++y0::y1::y2::y3::y4::y5::zs)).set (5+(ex.length+5)) x=kG fmt v0 v1 v2 v3 v4 L++(ex++y0::y1::y2::y3::y4::x::zs):=by
 rw [List.set_append_right _ _ (by rw [Qh]; omega),Qh,List.set_append_right _ _ (by omega),show 5+(ex.length+5) - 5 - ex.length=5 by omega]; rfl
end
theorem QFe (hT:Qf P tab) {fmt:Int→List UInt8} {v0 v1 v2 v3 v4 t:Nat} {L:List Nd} {ex:List (Option Ob)} {rs:List Int} {sl:V} {sure:Bool} (hr:rs.length=32) (hsl:ones [sl,.bool sure])
 {op rd imm i a b:Int} {r1 r2:Nat} (h1:rs[r1]?=some a) (h2:rs[r2]?=some b) (h12:r1≠2) (hq:i64 (imm.tdiv 4)) {r:GR}
 (hC:∀ (v2 v3 v4 t:Nat) (ex:List (Option Ob)),C P G 0 Qez [.ptr 1 v0 0,.agg (ins op rd r1 r2 imm),.int .i64 a,.int .i64 b] ⟨t,kG fmt v0 v1 v2 v3 v4 L++ex⟩ (Qc1 fmt r v0 v1 ex t)) :
 C P G 0 QiL [.ptr 1 v0 0,.agg (sC rs sl sure),.agg (ins op rd r1 r2 imm),.int .i64 i] ⟨t,kG fmt v0 v1 v2 v3 v4 L++ex⟩ fun v σ=>v=.tup [.agg (sC rs sl sure),eff 1 (IntKind.i64.wrap (i+imm.tdiv 4)) 0 r.1 (-1) 0]∧∃ t' v2' v3' v4',t≤t'∧σ=⟨t',kG fmt v0 v1 v2' v3' v4' r.2++ex⟩:=by
 have l1:=(List.getElem?_eq_some_iff.1 h1).1
 have l2:=(List.getElem?_eq_some_iff.1 h2).1
 have hg:=c_goes (P:=P) (G:=G) hT 1 i op rd r1 r2 imm r.1 hq
 simp only [eff] at hg ⊢
 have hlen:=QoQ hr sl sure
 have hone:=QfN (rs:=rs) hsl
 have htk:(sC rs sl sure).take 34=sC rs sl sure:=List.take_of_length_le (by omega)
 have g1:=QoR (sl:=sl) (sure:=sure) h1
 have g2:=QoR (sl:=sl) (sure:=sure) h2
 have q1:((r1:Nat):Int)<32:=by omega
 have q2:((r2:Nat):Int)<32:=by omega
 have q3:(((r1:Nat):Int) != 2)=true:=by simp; omega
 have q4:¬ ((r1:Nat):Int)=2:=by omega
 refine Qi (5+ex.length) (zL _) (Qk hT Qik (by simp [QcR]) (Qg 1000 ?_))
 obtain ⟨sc,hsc⟩:∃ sc,sc=sC rs sl sure:=⟨_,rfl⟩
 rw [← hsc] at hlen hone htk g1 g2 ⊢
 simp -implicitDefEqProofs (disch:=omega) only [go_sem,↓reduceIte,reduceCtorEq,rA,rq,rL,Qh,XI,Qam,hlen,hone,htk,g1,g2,q3,Int.toNat_natCast]
 (repeat' (first | with_reducible refine And.intro ?_ ?_ | with_reducible intro _)) <;> (
  refine call hT QmD (hC _ _ _ _ _) 1000 fun v σ hv=>?_
  obtain ⟨rfl,t1,a2,a3,a4,ht1,rfl⟩:=hv
  simp -implicitDefEqProofs (disch:=omega) only [go_sem,↓reduceIte,reduceCtorEq,rA,rq,Qh,XI,Qam,hlen,htk]
  (repeat' (first | with_reducible refine And.intro ?_ ?_ | with_reducible intro _)) <;> (
   refine Qj hT QmC hg (by simp [Qb,Qd]) 1000 ?_
   simp -implicitDefEqProofs (disch:=omega) only [go_sem,↓reduceIte,reduceCtorEq,rA,rq,Qh,XI,Qx,kxa2,kxa3,kxs2,kxs3,hlen,hone,htk,List.append_nil]
   exact ⟨by omega,t1,a2,a3,a4,by omega,rfl,rfl⟩))
end
section
attribute [local go_sem] nF zA Qu Xl QV zqp_0 zqp_1 zqp_2 zqp_3
theorem QwZ (hT:Qf P tab) (l:List Int) (tg:Bool) (hl:l.length≤1000000) {base t:Nat} {o:List (Option Ob)} :
 C P G base YA [.lst 1 (Xg l) tg] ⟨t,o⟩ fun u σ=>∃ t' w,t≤t'∧u=.sl o.length w 0 1 l.length none∧σ=⟨t',o++[some (.arr w 36 (Xg l))]⟩:=by
 refine C_own 1 36 (Q:=fun v σ=>(v=.sl o.length t 0 1 l.length none∧σ=⟨t+1,o++[some (.arr t 36 (Xg l))]⟩)∨(l=[]∧v=.lst 0 [] true∧σ=⟨t,o⟩)) ?_ fun v σ hv=>?_
 ·refine Qk hT XC (by simp [QV]) (Qg 1000 ?_)
  have hfl:((Xg l).map V.cells).flatten=Xg l:=by
   unfold Xg
   induction l with
   | nil=>rfl
   | cons x l ih=>simp only [List.map_cons,List.flatten_cons,V.cells]; rw [ih (by simp at hl; omega)]; rfl
  simp -implicitDefEqProofs (disch:=omega) only [go_sem,↓reduceIte,reduceCtorEq,rq,hfl]
  cases l with
  | nil=>exact rfl
  | cons n c=>exact trivial
 ·rcases hv with ⟨rfl,rfl⟩ | ⟨rfl,rfl,rfl⟩
  ·exact .inl ⟨_,_,by omega,rfl,rfl⟩
  ·exact .inr ⟨0,rfl,_,_,Nat.le_succ _,rfl,rfl⟩
variable {sure:Bool} {sl:V} {rs:List Int}
theorem Qwe {sl':V} (hr:rs.length=32):(sC rs sl sure).take 32++sl'::(sC rs sl sure).drop 33=sC rs sl' sure:=by
 unfold sC
 rw [List.take_append_of_le_length (by simp [Xg,hr]),List.take_of_length_le (by simp [Xg,hr]),List.drop_append,List.drop_of_length_le (by simp [Xg,hr]),Xl,hr]
 rfl
theorem sC_32 (hr:rs.length=32):(sC rs sl sure).getD 32 V.any=sl:=by
 unfold sC
 rw [List.getD_eq_getElem?_getD,List.getElem?_append_right (by simp [Xg,hr]),Xl,hr]
 rfl
end
section
attribute [local go_sem] nF aA cA List.getD_cons_succ List.getD_cons_zero lA lC lN nA tN tSq tZ aZ lR Nat.mul_one zA zL and_true decide_false false_implies ge_iff_le gt_iff_lt Qh XI Qam Qba kxa2 kxa3 kxa4 kxs2 kxs3 kxs4 Qed zqb_0 zqb_1 QG4 QG3 QG2 QG1 QG0 QGZ QGY QGX QGW QGV zqb_2 QGU QGT QGS QGR QGQ QGP QGO QGN zqb_3 zqb_4 zqb_5 zqb_6 zqb_7 zqb_8 zqb_9 Qu not_false_eq_true not_true_eq_false true_and true_implies
theorem Qjr:∀ (o:List (Option Ob)) {x y:List (Option Ob)},XT x y→XT (o++x) (o++y)
 | [],_,_,h=>h
 | none::o,_,_,h=>Qjr o h
 | some _::o,_,_,h=>⟨rfl,Qjr o h⟩
def QGi (fmt:Int→List UInt8) (L:List Nd) (rs ss:List Int) (sure:Bool) (e:V) (v0 v1 t:Nat) (ex:List (Option Ob)):V→H→Prop:=fun v σ=>∃ t' w2 w3 w4 ws,t≤t'∧v=.tup [.agg (sC rs (.sl (5+(ex.length+5)) ws 0 1 ss.length none) sure),e]∧σ=⟨t',kG fmt v0 v1 w2 w3 w4 L++(ex++[none,none,none,none,none,some (.arr ws 36 (Xg ss))])⟩
variable {sure tg:Bool} {rs ss K:List Int}
theorem QQv {fmt:Int→List UInt8} {L:List Nd} {e:V} {v0 v1 t:Nat} {ex:List (Option Ob)} {f:Nat} {args:List V} {σ0:H}
 (h:C P G 0 f args σ0 fun v σ=>∃ t' w2 w3 w4 ws,∃ A B C' D E:Option Ob,t≤t'∧v=.tup [.agg (sC rs (.sl (5+(ex.length+5)) ws 0 1 ss.length none) sure),e]∧σ=⟨t',kG fmt v0 v1 w2 w3 w4 L++(ex++[A,B,C',D,E,some (.arr ws 36 (Xg ss))])⟩):C P G 0 f args σ0 (QGi fmt L rs ss sure e v0 v1 t ex):=by
 refine Qw3 h fun v σ hv=>?_
 obtain ⟨t',w2,w3,w4,ws,A,B,C',D,E,h1,rfl,rfl⟩:=hv
 refine ⟨kG fmt v0 v1 w2 w3 w4 L++(ex++[none,none,none,none,none,some (.arr ws 36 (Xg ss))]),t',?_,lR _,zL _,t',w2,w3,w4,ws,h1,rfl,rfl⟩
 rw [← aA,← aA]
 exact Qjr _ (by simp [XT])
variable {r:GR} {n rd r1 r2:Nat} {pl FF:Int} {nm:List UInt8}
theorem Qnj (hT:Qf P tab) {fmt:Int→List UInt8} {v0 v1 v2 v3 v4 t:Nat} {L:List Nd} {ex:List (Option Ob)} {c:List In} (hr:rs.length=32) (hs:ss.length≤1000000)
 {x:In} (hx:c[n]?=some x) (hc:c.length≤1000000) (hpl:0≤pl∧pl≤10000000) (hret:ret c FF ((n:Nat):Int)=false)
 (xd:x.rd=rd) (x1:x.rs1=r1) (x2:x.rs2=r2) (hrd:rd≤31) {a b:Int} (h1:rs[r1]?=some a) (h2:rs[r2]?=some b)
 (n1:(x.op==22)=false∨((rd:Int)==2)=false) (n2:(x.op==3)=false) (n3:decide (5≤x.op∧x.op≤10)=false) (n4:(x.op==14)=false) (n5:(x.op==21)=false) (n6:(x.op==64)=false) (hne:r.1≠-1)
 (hV:∀ (v2 v3 v4 t:Nat) (ex:List (Option Ob)),C P G 0 Qds [.ptr 1 v0 0,.agg (inC x),.int .i64 (65536+pl+4 * (n:Int)),.int .i64 a,.int .i64 b] ⟨t,kG fmt v0 v1 v2 v3 v4 L++ex⟩ (Qc1 fmt r v0 v1 ex t)) :
 C P G 0 Qaa [.ptr 1 v0 0,.agg (fnC nm pl c FF K),.agg (sC rs (.lst 1 (Xg ss) tg) sure),.int .i64 ((n:Nat):Int)] ⟨t,kG fmt v0 v1 v2 v3 v4 L++ex⟩ (QGi fmt r.2 (Qwj rs rd r.1) ss sure (eff 0 0 0 (-1) (-1) 0) v0 v1 t ex):=by
 refine QQv ?_
 have l1:=(List.getElem?_eq_some_iff.1 h1).1
 have l2:=(List.getElem?_eq_some_iff.1 h2).1
 have ln:=(List.getElem?_eq_some_iff.1 hx).1
 have hsl:ones [V.lst 1 (Xg ss) tg,.bool sure]:=by intro u hu; simp at hu; rcases hu with rfl | rfl <;> rfl
 have hR:=Qmj (P:=P) (G:=G) hT nm pl FF c K ((n:Nat):Int) (by omega) (by omega)
 rw [hret] at hR
 have hB:=QcY (P:=P) (G:=G) hT x.op 5 10
 rw [n3] at hB
 have hnlf:=Qld (nm:=nm) (pl:=pl) (F:=FF) (c:=c) (K:=K)
 have w1:IntKind.i64.wrap (65536+pl)=65536+pl:=Yz (by omega)
 have w2:IntKind.i64.wrap (4 * (n:Int))=4 * (n:Int):=Yz (by omega)
 have w3:IntKind.i64.wrap (65536+pl+4 * (n:Int))=65536+pl+4 * (n:Int):=Yz (by omega)
 have hlen:=fun sl=>QoQ hr sl sure
 have htk:=fun sl=>List.take_of_length_le (l:=sC rs sl sure) (i:=34) (by rw [hlen]; omega)
 have hone:=QfN (rs:=rs) hsl
 have hcs:=fun sl sl'=>Qwe (sl:=sl) (sl':=sl') (sure:=sure) hr
 have h32:=fun sl=>sC_32 (sl:=sl) (sure:=sure) hr
 have g1:=fun sl=>QoR (sl:=sl) (sure:=sure) h1
 have g2:=fun sl=>QoR (sl:=sl) (sure:=sure) h2
 have hg:(c.map fun x=>V.agg (inC x)).getD n V.any=.agg (ins x.op rd r1 r2 x.imm):=by rw [QaI hx]; simp only [inC,xd,x1,x2]
 have q0:¬ ((n:Nat):Int)<0:=by omega
 have q1:¬ ((c.length:Nat):Int)≤((n:Nat):Int):=by omega
 have q1':((n:Nat):Int)<((c.length:Nat):Int):=by omega
 have q2:((r1:Nat):Int)<32:=by omega
 have q5:¬ 31<max (max ((rd:Nat):Int) r1) r2:=by omega
 have q3:((r2:Nat):Int)<32:=by omega
 refine Qk hT QE (by simp [Qed]) (Qg 60 ?_)
 simp only [inC,xd,x1,x2] at hV
 simp -implicitDefEqProofs (disch:=omega) only [go_sem,↓reduceIte,reduceCtorEq,rA,rq,rL,fnC,Y9,Xv,hlen,hone,h32,q0,q1,hg,lM]
 refine call hT XC (QwZ hT ss tg hs) 60 fun v σ hv=>?_
 obtain ⟨t1,ws,ht1,rfl,rfl⟩:=hv
 have hsl2:ones [V.sl (5+(ex.length+5)) ws 0 1 ss.length none,.bool sure]:=by intro u hu; simp at hu; rcases hu with rfl | rfl <;> rfl
 have hone2:=QfN (rs:=rs) hsl2
 simp -implicitDefEqProofs (disch:=omega) only [go_sem,↓reduceIte,reduceCtorEq,rA,rq,rL,hlen,hcs,q5]
 refine Qj hT Xh hR (by simp [Qb,Qd]) 60 ?_
 have hne':(r.1==-1)=false:=by simpa using hne
 have hr2:(Qwj rs rd r.1).length=32:=by unfold Qwj; split <;> simp [hr]
 have hlen2:=fun sl=>QoQ hr2 sl sure
 have htk2:=fun sl=>List.take_of_length_le (l:=sC (Qwj rs rd r.1) sl sure) (i:=34) (by rw [hlen2]; omega)
 have hone3:=QfN (rs:=Qwj rs rd r.1) hsl2
 have p2:¬ x.op=3:=by simpa using n2
 have p4:¬ x.op=14:=by simpa using n4
 have p5:¬ x.op=21:=by simpa using n5
 have p6:¬ x.op=64:=by simpa using n6
 obtain ⟨d22,e22⟩:∃ d,(x.op==22)=d:=⟨_,rfl⟩
 obtain ⟨d2,e2⟩:∃ d,(((rd:Nat):Int)==2)=d:=⟨_,rfl⟩
 rw [e22,e2] at n1
 have f22:(x.op=22)=(d22=true):=by rw [← e22]; simp
 have f2:(((rd:Nat):Int)=2)=(d2=true):=by rw [← e2]; simp
 simp -implicitDefEqProofs (disch:=omega) only [go_sem,↓reduceIte,reduceCtorEq,rA,rq,rL,hlen,htk,e22]
 cases d22 <;> cases d2 <;> (try simp at n1)
 all_goals (
  simp -implicitDefEqProofs (disch:=omega) only [go_sem,reduceCtorEq,e2,f2,n2,p2,reduceCtorEq]
  refine Qj hT Q1 hB (by simp [Qb,Qd]) 60 ?_
  simp -implicitDefEqProofs (disch:=omega) only [go_sem,↓reduceIte,reduceCtorEq,rA,rq,rL,hlen,n4,n5,n6,reduceCtorEq,g1,g2,w1,w2,w3,Int.toNat_natCast]
  refine call hT QfL (hV _ _ _ _ _) 60 fun v σ hv=>?_
  obtain ⟨rfl,t2,a2,a3,a4,ht2,rfl⟩:=hv
  simp -implicitDefEqProofs (disch:=omega) only [go_sem,↓reduceIte,reduceCtorEq,rA,rq,rL,hlen,htk,hne']
  refine call hT QoN (c_put hT (by simp) hr hsl2 (by omega)) 60 fun v σ hv=>?_
  obtain ⟨rfl,t3,ht3,rfl⟩:=hv
  simp -implicitDefEqProofs (disch:=omega) only [go_sem,↓reduceIte,reduceCtorEq,rA,rq,rT,hlen2,htk2,hone3,eff,List.append_nil]
  exact ⟨t3,a2,a3,a4,ws,_,_,_,_,_,by omega,rfl,rfl,rfl⟩)
theorem QFg (hT:Qf P tab) {fmt:Int→List UInt8} {v0 v1 v2 v3 v4 t:Nat} {L:List Nd} {ex:List (Option Ob)} {c:List In} (hr:rs.length=32) (hs:ss.length≤1000000)
 {x:In} (hx:c[n]?=some x) (hc:c.length≤1000000) (hpl:0≤pl∧pl≤10000000) (hret:ret c FF ((n:Nat):Int)=false)
 (xd:x.rd=rd) (x1:x.rs1=r1) (x2:x.rs2=r2) (hrd:rd≤31) {a b:Int} (h1:rs[r1]?=some a) (h2:rs[r2]?=some b)
 (n3:5≤x.op∧x.op≤10) (h12:r1≠2) (hq:i64 (x.imm.tdiv 4)) 
 (hC:∀ (v2 v3 v4 t:Nat) (ex:List (Option Ob)),C P G 0 Qez [.ptr 1 v0 0,.agg (ins x.op rd r1 r2 x.imm),.int .i64 a,.int .i64 b] ⟨t,kG fmt v0 v1 v2 v3 v4 L++ex⟩ (Qc1 fmt r v0 v1 ex t)) :
 C P G 0 Qaa [.ptr 1 v0 0,.agg (fnC nm pl c FF K),.agg (sC rs (.lst 1 (Xg ss) tg) sure),.int .i64 ((n:Nat):Int)] ⟨t,kG fmt v0 v1 v2 v3 v4 L++ex⟩ (QGi fmt r.2 rs ss sure (eff 1 (IntKind.i64.wrap (((n:Nat):Int)+x.imm.tdiv 4)) 0 r.1 (-1) 0) v0 v1 t ex):=by
 refine QQv ?_
 have l1:=(List.getElem?_eq_some_iff.1 h1).1
 have l2:=(List.getElem?_eq_some_iff.1 h2).1
 have ln:=(List.getElem?_eq_some_iff.1 hx).1
 have hsl:ones [V.lst 1 (Xg ss) tg,.bool sure]:=by intro u hu; simp at hu; rcases hu with rfl | rfl <;> rfl
 have hR:=Qmj (P:=P) (G:=G) hT nm pl FF c K ((n:Nat):Int) (by omega) (by omega)
 rw [hret] at hR
 have hB:=QcY (P:=P) (G:=G) hT x.op 5 10
 rw [decide_eq_true n3] at hB
 have hnlf:=Qld (nm:=nm) (pl:=pl) (F:=FF) (c:=c) (K:=K)
 have w1:IntKind.i64.wrap (65536+pl)=65536+pl:=Yz (by omega)
 have w2:IntKind.i64.wrap (4 * (n:Int))=4 * (n:Int):=Yz (by omega)
 have w3:IntKind.i64.wrap (65536+pl+4 * (n:Int))=65536+pl+4 * (n:Int):=Yz (by omega)
 have hlen:=fun sl=>QoQ hr sl sure
 have htk:=fun sl=>List.take_of_length_le (l:=sC rs sl sure) (i:=34) (by rw [hlen]; omega)
 have hone:=QfN (rs:=rs) hsl
 have hcs:=fun sl sl'=>Qwe (sl:=sl) (sl':=sl') (sure:=sure) hr
 have h32:=fun sl=>sC_32 (sl:=sl) (sure:=sure) hr
 have g1:=fun sl=>QoR (sl:=sl) (sure:=sure) h1
 have g2:=fun sl=>QoR (sl:=sl) (sure:=sure) h2
 have hg:(c.map fun x=>V.agg (inC x)).getD n V.any=.agg (ins x.op rd r1 r2 x.imm):=by rw [QaI hx]; simp only [inC,xd,x1,x2]
 have q0:¬ ((n:Nat):Int)<0:=by omega
 have q1:¬ ((c.length:Nat):Int)≤((n:Nat):Int):=by omega
 have q1':((n:Nat):Int)<((c.length:Nat):Int):=by omega
 have q2:((r1:Nat):Int)<32:=by omega
 have q5:¬ 31<max (max ((rd:Nat):Int) r1) r2:=by omega
 have q3:((r2:Nat):Int)<32:=by omega
 refine Qk hT QE (by simp [Qed]) (Qg 60 ?_)
 simp -implicitDefEqProofs (disch:=omega) only [go_sem,↓reduceIte,reduceCtorEq,rA,rq,rL,fnC,Y9,Xv,hlen,hone,h32,q0,q1,hg,lM]
 refine call hT XC (QwZ hT ss tg hs) 60 fun v σ hv=>?_
 obtain ⟨t1,ws,ht1,rfl,rfl⟩:=hv
 have hsl2:ones [V.sl (5+(ex.length+5)) ws 0 1 ss.length none,.bool sure]:=by intro u hu; simp at hu; rcases hu with rfl | rfl <;> rfl
 have hone2:=QfN (rs:=rs) hsl2
 simp -implicitDefEqProofs (disch:=omega) only [go_sem,↓reduceIte,reduceCtorEq,rA,rq,rL,hlen,hcs,q5]
 refine Qj hT Xh hR (by simp [Qb,Qd]) 60 ?_
 have p22:¬ x.op=22:=by omega
 have p22':(x.op==22)=false:=by simpa using p22
 have p3:¬ x.op=3:=by omega
 have p3':(x.op==3)=false:=by simpa using p3
 simp -implicitDefEqProofs (disch:=omega) only [go_sem,↓reduceIte,reduceCtorEq,rA,rq,rL,p22',p3']
 refine Qj hT Q1 hB (by simp [Qb,Qd]) 60 ?_
 simp -implicitDefEqProofs (disch:=omega) only [go_sem,↓reduceIte,reduceCtorEq,rA,rq,hlen,htk]
 refine call hT Qik (QFe hT hr hsl2 h1 h2 h12 hq hC) 60 fun v σ hv=>?_
 obtain ⟨rfl,t2,a2,a3,a4,ht2,rfl⟩:=hv
 simp -implicitDefEqProofs (disch:=omega) only [go_sem,↓reduceIte,reduceCtorEq,rA,rq,rT,hlen,htk,hone2,eff,List.append_nil]
 exact ⟨t2,a2,a3,a4,ws,_,_,_,_,_,by omega,rfl,rfl,rfl⟩
end
section
attribute [local go_sem] nF nT aA cA List.getD_cons_succ List.getD_cons_zero lA lC lN nA tZ aZ lR zA zL Option.getD_some and_true decide_false decide_true Qh XI Qam QcS Qba Qx kxa2 kxs2 QmT zqv_0 zqv_1 QGM QGL QGK QGJ QGI QGH QGG zqv_2 zqv_3 zqv_4 zqv_5 zqv_6 zqv_7 zqv_8 zqv_9 true_implies
theorem QET {l:List Int} {a:Int} (hn:l.Nodup) (h:∀ x∈l,x=a) (ha:a∈l):l=[a]:=by
 match l,hn,h,ha with
 | [x],_,h,_=>rw [h x (by simp)]
 | x::y::l,hn,h,_ =>
   have h1:=h x (by simp); have h2:=h y (by simp)
   simp [h1,h2] at hn
theorem QBs {L:List Nd} (hok:okN L) {id:Int} (hin:inG L id) (h3:(nd L id).kind≠3) (h4:(nd L id).kind≠4):Qjp L [id]=[id]:=by
 refine QET Qxc (QBr (fun x _ _ hx p hp=>?_) rfl) (QBq hok.wf hin.1 hin.2)
 subst hx
 have hpt:pts L x=[]:=by
  show (nd L x).parts=_
  simp [Nd.parts,h3,h4]
 rw [hpt] at hp
 cases hp
theorem QFh (hT:Qf P tab) (SO:Qe8 P) {fmt:Int→List UInt8} {L:List Nd} (hok:okN L) (hL:L.length≤1000000) {id:Int} (hin:inG L id) (h3:(nd L id).kind≠3) (h4:(nd L id).kind≠4):OfC P G fmt L id:=by
 intro v0 v1 v2 v3 v4 t ex
 have hU:=QBs hok hin h3 h4
 have hin':0≤id∧id<L.length:=hin
 have h3':((nd L id).kind==3)=false:=by simpa using h3
 have h4':((nd L id).kind==4)=false:=by simpa using h4
 have e:L.getD id.toNat zeroNd=nd L id:=rfl
 have w1:IntKind.i64.wrap (0+1)=1:=by decide
 refine Qi (5+ex.length) (zL _) (Qk hT QfK (by simp [QmT]) (Qg 1000 ?_))
 refine ya ?_
 refine call hT QF (Qgn hT) 1000 fun v σ hv=>?_
 obtain ⟨rfl,t1,ht1,rfl⟩:=hv
 rw [if_pos hin',e]
 generalize nd L id=d at *
 simp -implicitDefEqProofs (disch:=omega) only [go_sem,↓reduceIte,reduceCtorEq,rA,rq,rT,Nd.cells]
 refine call hT QdU (k_Uses hT SO hL hok.wf [id] 1 true (.inl rfl) (by simp)) 1000 fun v σ hv=>?_
 obtain ⟨rfl,t2,ht2,rfl⟩:=hv
 rw [hU]
 simp only [List.map_cons,List.map_nil]
 have c1:((1:Nat):Int)=1:=rfl
 have z1:((0:Int)<1)=True:=eq_true (by decide)
 have z2:((1:Int)<1)=False:=eq_false (by decide)
 have hk0:Qan false [Kd.i] (V.int .i64 id) []:=⟨QiQ rfl,fun p hp=>by cases hp⟩
 have hk1:Qan false [Kd.i] (V.int .i64 id) [(V.int .i64 id,V.int .i64 id)]:=⟨QiQ rfl,fun p hp=>by simp at hp; subst hp; exact ⟨rfl,rfl⟩⟩
 have hmp:Qr0 [Kd.i] (V.int .i64 id) (V.int .i64 id) []=[(V.int .i64 id,V.int .i64 id)]:=rfl
 have hmg:Qn6 [Kd.i] (V.int .i64 id) [(V.int .i64 id,V.int .i64 id)]=some (V.int .i64 id):=by simp [Qn6,QbT,V.cells,Qb1,QqX]
 refine ya ?_
 refine Ya 2 60 ?_
 simp -implicitDefEqProofs (disch:=omega) only [go_sem,↓reduceIte,reduceCtorEq,rq,rT,Int.reduceToNat,Int.reduceLE,c1,z1]
 refine call hT QF (Qgn hT) 40 fun v σ hv=>?_
 obtain ⟨rfl,t3,ht3,rfl⟩:=hv
 rw [if_pos hin',e]
 simp -implicitDefEqProofs (disch:=omega) only [go_sem,↓reduceIte,reduceCtorEq,rA,rq,rL,rT,Nd.cells,h3',h4',w1,hk0]
 iterate 6 (try (refine Qa 4 ?_; simp -implicitDefEqProofs (disch:=omega) only [go_sem,↓reduceIte,reduceCtorEq,rA,rq,z2,hk1,hmp,hmg]))
 exact ⟨by omega,rfl,t3+1,v2,v3,v4,by omega,rfl⟩
end
end Go.Proofs.YtbdhjeojcpgblaaGreatDoor
namespace Go.Proofs.YtbdhjeojcpgblaaGreatDoor
open Go Go.Am
set_option maxRecDepth 100000
variable {P:Program} {G:Nat→Option V}
set_option maxHeartbeats 4000000
theorem ops_22 (hT:Qf P tab):Pure P G QgP [.int .u8 22] fun v=>v=QPL (some 1) :=
 run_pure hT 200 10 (QPL (some 1)) (fun v=>veq v (QPL (some 1))) (QBo _) rfl (by kernel_rfl)
theorem ops_35 (hT:Qf P tab):Pure P G QgP [.int .u8 35] fun v=>v=QPL (some 15) :=
 run_pure hT 200 10 (QPL (some 15)) (fun v=>veq v (QPL (some 15))) (QBo _) rfl (by kernel_rfl)
end Go.Proofs.YtbdhjeojcpgblaaGreatDoor
namespace Go.Proofs.YtbdhjeojcpgblaaGreatDoor
open Go Go.Am Go.Rv Go.Rg
set_option maxRecDepth 100000
set_option maxHeartbeats 4000000
def lwc:List In:=[⟨22,5,6,0,7⟩,⟨35,5,0,6,0⟩,⟨1,5,0,0,4096⟩,⟨5,0,5,6,8⟩,⟨4,0,1,0,0⟩,⟨4,0,1,0,0⟩]
def lwK:List Int:=cuts lwc 0
theorem lw_of:ofS (QeC [lwc] 0)=.inl [⟨nameAt 0,0,lwc,0,lwK⟩]:=by kernel_rfl
def g0:List Nd:=bgS [] 0 0
def gq1:GR:=(QqW 30 (Qdo g0 7).2 1 5 (Qdo g0 7).1).getD (0,[])
def gq2:GR:=(QqW 30 gq1.2 15 0 5).getD (0,[])
def gq3:GR:=Qdo gq2.2 4096
def gq4:GR:=(QDj 30 gq3.2 5 4 5).getD (0,[])
def gq5:GR:=Qdo gq4.2 7
def gq6:GR:=(QqW 30 gq5.2 1 5 gq5.1).getD (0,[])
def gq7:GR:=(QEX 30 gq6.2 5).getD (0,[])
def gq8:GR:=(QEX 30 gq7.2 gq7.1).getD (0,[])
def gq9:GR:=(QqW 30 gq8.2 16 4 5).getD (0,[])
theorem b1:QqW 30 (Qdo g0 7).2 1 5 (Qdo g0 7).1=some gq1:=by kernel_rfl
theorem b2:QqW 30 gq1.2 15 0 5=some gq2:=by kernel_rfl
theorem b4:QDj 30 gq3.2 5 4 5=some gq4:=by kernel_rfl
theorem b6:QqW 30 gq5.2 1 5 gq5.1=some gq6:=by kernel_rfl
theorem b7:QEX 30 gq6.2 5=some gq7:=by kernel_rfl
theorem b8:QEX 30 gq7.2 gq7.1=some gq8:=by kernel_rfl
theorem b9:QqW 30 gq8.2 16 4 5=some gq9:=by kernel_rfl
theorem s6:gq6.1=gq1.1:=by kernel_rfl
theorem s8:gq8.1=gq2.1:=by kernel_rfl
theorem s9:gq9.1=gq4.1:=by kernel_rfl
theorem n3:Qjg gq4.2 gq3.1=some 4096:=by kernel_rfl
theorem ne1':decide (gq1.1≠-1)=true:=by kernel_rfl
theorem ne1:gq1.1≠-1:=of_decide_eq_true ne1'
theorem ne2':decide (gq2.1≠-1)=true:=by kernel_rfl
theorem ne2:gq2.1≠-1:=of_decide_eq_true ne2'
theorem ne3':decide (gq3.1≠-1)=true:=by kernel_rfl
theorem ne3:gq3.1≠-1:=of_decide_eq_true ne3'
def rs0:List Int:=(List.range 32).map (Ql4 g0 0)
theorem QpK:rs0.length=32:=by simp [rs0]
theorem QrD:rs0=[0,1,-1,2,3,4,5,6,7,8,9,10,11,12,13,14,15,16,17,18,19,20,21,22,23,24,25,26,27,28,29,30]:=by kernel_rfl
theorem stC_sC (L:List Nd) (b:Int) (sl:V) (sure:Bool):stC L b 32 sl sure=sC ((List.range 32).map (Ql4 L b)) sl sure:=by
 unfold stC sC Qfb Xg
 rw [List.map_map]
 congr 1
def Qp2 (L:List Nd) (x:Int):Bool:=decide (inG L x)&&(decide ((nd L x).kind≠3)&&decide ((nd L x).kind≠4))
theorem QuP {L:List Nd} {x:Int} (h:Qp2 L x=true):inG L x∧(nd L x).kind≠3∧(nd L x).kind≠4:=by
 unfold Qp2 at h
 simp only [Bool.and_eq_true,decide_eq_true_eq] at h
 exact h
theorem QB7 {b:Int} (hb:0≤b∧b≤1099511627776):∀ r,r≤32→okN (bgL [] b r)
 | 0,_=>by intro k d h; simp [bgL] at h
 | r+1,hr=>by
   have ih:=QB7 hb r (by omega)
   unfold bgL
   split
   ·exact ih
   ·refine Ql7 ih ?_ ?_
    ·unfold QrH; split
     ·unfold co i64; simp
     ·unfold sy i64; simp only; split <;> omega
    ·unfold QrH; split
     ·unfold co i64; simp
     ·unfold sy i64; simp
theorem ok0:okN g0:=QB7 (by omega) 32 (by omega)
theorem o1:On g0 gq1:=(QmP ok0 (by unfold i64; omega)).trans (Qiv (QmP ok0 (n:=7) (by unfold i64; omega)).ok b1)
theorem o2:On gq1.2 gq2:=Qiv o1.ok b2
theorem o3:On gq2.2 gq3:=QmP o2.ok (by unfold i64; omega)
theorem o4:On gq3.2 gq4:=by
 have h:=b4
 unfold QDj at h
 obtain ⟨c,h1,h2⟩:=Option.bind_eq_some_iff.1 h
 rw [if_neg (by decide)] at h2
 cases h2
 exact Qiv o3.ok h1
theorem o5:On gq4.2 gq5:=QmP o4.ok (by unfold i64; omega)
theorem o6:On gq5.2 gq6:=Qiv o5.ok b6
theorem o7:On gq6.2 gq7:=QB4 o6.ok b7
theorem o8:On gq7.2 gq8:=QB4 o7.ok b8
theorem o9:On gq8.2 gq9:=Qiv o8.ok b9
def szB:Bool:=decide (gq9.2.length≤100)
theorem sz9:gq9.2.length≤100:=of_decide_eq_true (show szB=true by kernel_rfl)
variable {P:Program} {G:Nat→Option V}
theorem QSt (k w:Nat) (cs:List V) (L:List Nd):(ndC L).map (XR k w cs)=ndC L:=by
 induction L with
 | nil=>rfl
 | cons d L ih =>
   have e:ndC (d::L)=d.cells++ndC L:=by simp [ndC]
   rw [e,List.map_append,ih]; rfl
theorem QwL (k w:Nat) (cs:List V):∀ (j:Nat) (L:List Nd),(Qhs j L).map (fun p=>(p.1,XR k w cs p.2))=Qhs j L
 | _,[]=>rfl
 | j,d::l=>by simp only [Qhs,List.map_cons,QwL k w cs (j+1) l]; rfl
variable {k w:Nat}
theorem QPV {fmt:Int→List UInt8} {v0 v1 v2 v3 v4:Nat} {L:List Nd} {cs:List V} {ex:List (Option Ob)} (hk:5≤k):QN (XR k w cs) 0 (kG fmt v0 v1 v2 v3 v4 L++ex)=kG fmt v0 v1 v2 v3 v4 L++QN (XR k w cs) 0 ex:=by
 have n2:¬ 2=k:=by omega
 have n3:¬ 3=k:=by omega
 have n4:¬ 4=k:=by omega
 simp [kG,QN,Ob.mapV,QSt,QwL,XR,n2,n3,n4]
variable {sure:Bool} {rs ss:List Int}
theorem QP0:XR k w (Xg ss) (.agg (sC rs (.sl k w 0 1 ss.length none) sure))=.agg (sC rs (.lst 1 (Xg ss) false) sure):=by
 have e:XR k w (Xg ss) (.sl k w 0 1 ss.length none)=.lst 1 (Xg ss) false:=by
  have h:(Xg ss).take ss.length=Xg ss:=List.take_of_length_le (by rw [Xl]; omega)
  simp [XR,Qd1,Xl,h]
 unfold sC
 rw [XR,QgS,List.map_append,Qsa,List.map_cons,List.map_cons,List.map_nil,e]
 rfl
theorem QuN (g:V→V) (l m:List (Option Ob)):QN g 0 (l++m)=QN g 0 l++QN g 0 m:=by
 induction l with
 | nil=>rfl
 | cons x l ih=>simp only [cA,QN,ih]
def Still (ex:List (Option Ob)):Prop:=∀ k w cs,QN (XR k w cs) 0 ex=ex
theorem QqO {fmt:Int→List UInt8} {L:List Nd} {k to n x y rd:Int} {v0 v1 t:Nat} {ex:List (Option Ob)} {f:Nat} {args:List V} {σ0:H} (hex:Still ex)
 (h:C P G 0 f args σ0 (QGi fmt L rs ss sure (eff k to n x y rd) v0 v1 t ex)) :
 C P G 0 f args σ0 fun v σ=>v=.tup [.agg (sC rs (.lst 1 (Xg ss) false) sure),eff k to n x y rd]∧∃ t' w2 w3 w4,t≤t'∧σ=⟨t',kG fmt v0 v1 w2 w3 w4 L++ex⟩:=by
 refine Qw3 (Qjf (Q2:=fun v σ=>v=.tup [.agg (sC rs (.lst 1 (Xg ss) false) sure),eff k to n x y rd]∧∃ t' w2 w3 w4,t≤t'∧σ=⟨t',kG fmt v0 v1 w2 w3 w4 L++(ex++[none,none,none,none,none,none])⟩) h fun v σ hv=>?_) fun v σ hv=>?_
 ·obtain ⟨t',w2,w3,w4,ws,ht,rfl,rfl⟩:=hv
  refine .inr ⟨5+(ex.length+5),ws,36,Xg ss,zL _,kxa5,Qoc ss,?_,t',w2,w3,w4,ht,?_⟩
  ·show XR _ _ _ (.tup [_,_])=_
   rw [XR]
   simp only [Qp9]
   rw [QP0]
   rfl
  ·rw [kxs5,QPV (by omega),QuN,hex]
   rfl
 ·obtain ⟨rfl,t',w2,w3,w4,ht,rfl⟩:=hv
  refine ⟨kG fmt v0 v1 w2 w3 w4 L++ex,t',?_,lR _,zL _,rfl,t',w2,w3,w4,ht,rfl⟩
  have:=Qup (kG fmt v0 v1 w2 w3 w4 L++ex) [none,none,none,none,none,none]
  rwa [aA] at this
end Go.Proofs.YtbdhjeojcpgblaaGreatDoor
namespace Go.Proofs.YtbdhjeojcpgblaaGreatDoor
open Go Go.Am Go.Rv Go.Rg
set_option maxRecDepth 100000
set_option maxHeartbeats 4000000
section
attribute [local go_sem] nF aA List.append_nil cA List.getD_cons_succ List.getD_cons_zero lC lN nA List.set_cons_zero tN tSq tZ aZ lR Nat.mul_one zA zL V.cells and_true bne_self_eq_false false_implies flt proofmarklaw23_works Qzw Qzv Qq4 Qq3 Qq2 Qq1 Qzu Qzt Qzs Qzr Qzq Qzp Qzo Qzn true_implies
def lwIm:Im:=QeC [lwc] 0
theorem lw_ok:∀ x∈lwc,QqN x:=fun x hx=>by
 have h:(lwc.all fun x=>decide (0≤x.op∧x.op≤255)&&(decide (0≤x.rd∧x.rd≤255)&&(decide (0≤x.rs1∧x.rs1≤255)&&(decide (0≤x.rs2∧x.rs2≤255)&&decide (-9223372036854775808≤x.imm∧x.imm≤9223372036854775807)))))=true:=rfl
 have:=List.all_eq_true.1 h x hx
 simp only [Bool.and_eq_true,decide_eq_true_eq] at this
 exact ⟨this.1,this.2.1,this.2.2.1,this.2.2.2.1,this.2.2.2.2⟩
theorem lw_nm:∀ s∈lwIm.syms,s.1.length≤9223372036854775807:=fun s hs=>by
 have h:(lwIm.syms.all fun s=>decide (s.1.length≤100))=true:=by kernel_rfl
 have:=of_decide_eq_true (List.all_eq_true.1 h s hs)
 omega
theorem lw_wb:∀ w∈lwIm.code,0≤w∧w<4294967296:=fun w hw=>by
 have h:(lwIm.code.all fun w=>decide (0≤w∧w<4294967296))=true:=by kernel_rfl
 exact of_decide_eq_true (List.all_eq_true.1 h w hw)
def lwF:List V:=fnC (nameAt 0) 0 lwc 0 lwK
def lwR:V:=.lst 1 [.lst 5 (lwc.map fun x=>V.agg (inC x)) true] true
theorem lw_img (hT:Qf Tryz.prog tab):Am.Pure Tryz.prog G0 Yr [lwR,.int .i64 0] fun v=>v=QhI lwIm :=
 Pure.args (.cons _ _ _ _ (.lst 1 1 _ _ true (.cons _ _ _ _ (.lst 5 5 _ _ true (WkL.refl _) (.inr rfl)) .nil) (.inr rfl)) (.cons _ _ _ _ (.refl _) .nil)) (QTg (ls:=[lwc]) (d:=0) hT (by decide) (by simp [lwc]) (by simpa using lw_ok))
theorem QSc (hT:Qf Tryz.prog tab):Am.Pure Tryz.prog G0 Qgc [QhI lwIm] fun v=>v=.tup [.lst 5 [.agg lwF] false,.agg (flt 0 0 0)]:=by
 have h:=c_rOf hT lwIm lw_nm lw_wb
 rw [show ofS lwIm=_ from lw_of] at h
 exact h
def X8:Nat→AC→AC
 | 0,c=>c
 | k+1,.seq _ c=>X8 k c
 | _,c=>c
theorem dw0:X8 0 proofmarklaw23_works.body=.seq (.reg Qzw []) (X8 1 proofmarklaw23_works.body):=rfl
theorem dw1:X8 1 proofmarklaw23_works.body=.seq (.reg Qzv [18,19,20,21,22,23,24,25]) (X8 2 proofmarklaw23_works.body):=rfl
theorem dw2:X8 2 proofmarklaw23_works.body=.seq (.reg Qzu [27,28,29,26,30,31]) (X8 3 proofmarklaw23_works.body):=rfl
theorem dw3:X8 3 proofmarklaw23_works.body=.seq (.seq (.reg Qzt [32,33,34,35,36,37,38]) (.cond (Arg.t 39) (.seq (.reg Qzs []) .ret) .skip)) (X8 4 proofmarklaw23_works.body):=rfl
theorem dw4:X8 4 proofmarklaw23_works.body=.seq (.reg Qzr [40]) (X8 5 proofmarklaw23_works.body):=rfl
theorem dw5:X8 5 proofmarklaw23_works.body=.seq (.reg Qzq [42,43,44,45,46,41,47,48,6]) (X8 6 proofmarklaw23_works.body):=rfl
theorem dw6:X8 6 proofmarklaw23_works.body=.seq (.reg Qzp [49,50,51]) (X8 7 proofmarklaw23_works.body):=rfl
theorem dw7:X8 7 proofmarklaw23_works.body=.seq (.reg Qzo [53,54,55,56,57,58,52,59,60]) (X8 8 proofmarklaw23_works.body):=rfl
theorem dw8:X8 8 proofmarklaw23_works.body=.seq (.reg Qzn [62,63,64,65,66,67,61,68,69]) (X8 9 proofmarklaw23_works.body):=rfl
theorem dw9:X8 9 proofmarklaw23_works.body=.seq (.reg Qq4 [71,72,73,74,75,76,70,77,78]) (X8 10 proofmarklaw23_works.body):=rfl
theorem dw10:X8 10 proofmarklaw23_works.body=.seq (.reg Qq3 [80,81,82,83,84,85,79,86,87,14]) (X8 11 proofmarklaw23_works.body):=rfl
theorem dw11:X8 11 proofmarklaw23_works.body=.seq (.reg Qq2 [89,90,91,92,93,88,94,95]) (X8 12 proofmarklaw23_works.body):=rfl
theorem dw12:X8 12 proofmarklaw23_works.body=.seq (.reg Qq1 [96,97,98,99,100,101,102,103,104,105,106,107,108,109,110,111,112,113,114,115,116,117,118,119,120,121,122,123,124,125,126,127,128,129,130,131,132,133,134,135,136,137,138,139,140,141,142,143,144,145,146,147,148,149,150,151,152,153,154,155,156,157,158]) (X8 13 proofmarklaw23_works.body):=rfl
def sV (rs:List Int):V:=.ref (.agg (sC rs (.lst 1 [] false) true)) 0
abbrev lwB (v0:Nat):Fr:=[(2,.lst 5 [.agg lwF] false),(4,.ptr 1 v0 0),(5,sV rs0),(7,.int .i64 5)]
theorem kG_set (fmt:Int→List UInt8) (v0 v1 v2 v3 v4:Nat) (L:List Nd) (k:Nat) (ex:List (Option Ob)):(kG fmt v0 v1 v2 v3 v4 L++ex).set (5+k) none=kG fmt v0 v1 v2 v3 v4 L++ex.set k none:=by
 rw [List.set_append_right _ _ (by show 5≤_; omega)]
 congr 2
 show 5+k - 5=k
 omega
theorem kG_get (fmt:Int→List UInt8) (v0 v1 v2 v3 v4:Nat) (L:List Nd) (k:Nat) (ex:List (Option Ob)):(kG fmt v0 v1 v2 v3 v4 L++ex)[5+k]?=ex[k]?:=by
 rw [List.getElem?_append_right (by show 5≤_; omega)]
 congr 1
 show 5+k - 5=k
 omega
variable {fr:Fr} {n:Nat}
theorem Qwc {G:Nat→Option V} {fmt:Int→List UInt8} {v0 v1 v2 v3 v4 t k v T:Nat} {L:List Nd} {ex:List (Option Ob)} {cs:List V} (h:ex[k]?=some (some (.arr v T cs))) (hn:Qb cs=true) :
 Shift G n 0 fr ⟨t,kG fmt v0 v1 v2 v3 v4 L++ex⟩ (Qby (5+k) v cs fr) ⟨t,kG fmt v0 v1 v2 v3 v4 L++QN (XR (5+k) v cs) 0 (ex.set k none)⟩:=by
 have:=Shift.freeze (G:=G) (n:=n) (base:=0) (fr:=fr) (σ:=⟨t,kG fmt v0 v1 v2 v3 v4 L++ex⟩) (k:=5+k) (v:=v) (T:=T) (cs:=cs) (zL _) (by rw [kG_get]; exact h) hn
 rw [kG_set,QPV (by omega)] at this
 exact this
theorem QBG {G:Nat→Option V} {fmt:Int→List UInt8} {v0 v1 v2 v3 v4 t:Nat} {L:List Nd} {ex:List (Option Ob)} :
 Shift G n 0 fr ⟨t,kG fmt v0 v1 v2 v3 v4 L++ex⟩ fr ⟨t,kG fmt v0 v1 v2 v3 v4 L⟩:=Shift.drop (by
 have:=Qup (kG fmt v0 v1 v2 v3 v4 L) ex
 exact this) (lR _) (zL _)
theorem QpH (rs:List Int) (sure:Bool):Qb (sC rs (.lst 1 [] false) sure)=true:=by
 have h:∀ v∈sC rs (.lst 1 [] false) sure,Qd v=true:=fun v hv=>by
  unfold sC Xg at hv
  simp only [List.mem_append,List.mem_map,List.mem_cons,List.not_mem_nil,or_false] at hv
  rcases hv with ⟨r,_,rfl⟩ | rfl | rfl <;> rfl
 exact QkH h
variable {Q:V→H→Prop}
theorem QFU (hT:Qf Tryz.prog tab) {t:Nat} (k:∀ t,W Tryz.prog G0 159 0 (X8 4 proofmarklaw23_works.body) [(2,.lst 5 [.agg lwF] false)] ⟨t,[]⟩ (QkX G0 proofmarklaw23_works.res Q)):C Tryz.prog G0 0 Q9 [] ⟨t,[]⟩ Q:=by
 have hI:=lw_img hT
 have hO:=QSc hT
 have hnl:Qb [QhI lwIm]=true:=by simp [Qb,Qd,QhI,QjP]
 have hnl2:Qb [lwR,.int .i64 0]=true:=by kernel_rfl
 refine Qk hT Q8 (by simp [proofmarklaw23_works]) ?_
 have e1:W Tryz.prog G0 159 0 (X8 0 proofmarklaw23_works.body) (QEa 0 []) ⟨t,[]⟩ (QkX G0 proofmarklaw23_works.res Q):=by
  obtain ⟨T2,hT2⟩:∃ c,c=X8 2 proofmarklaw23_works.body:=⟨_,rfl⟩
  rw [dw0,dw1,← hT2]
  refine Qg 40 ?_
  refine ya ?_
  rw [hT2,dw2]
  clear T2 hT2
  obtain ⟨T2,hT2⟩:∃ c,c=X8 3 proofmarklaw23_works.body:=⟨_,rfl⟩
  rw [← hT2]
  refine ya ?_
  refine Qj hT Qb6 hI hnl2 30 ?_
  refine ya ?_
  refine Qj hT QfJ hO hnl 21 ?_
  refine ya ?_
  rw [hT2,dw3]
  clear T2 hT2
  obtain ⟨T2,hT2⟩:∃ c,c=X8 4 proofmarklaw23_works.body:=⟨_,rfl⟩
  rw [← hT2]
  simp -implicitDefEqProofs (disch:=omega) only [go_sem,↓reduceIte,reduceCtorEq,rA,rq,show ((1:Nat):Int)=1 from rfl]
  rw [hT2]
  refine Qb5 [(2,.lst 5 [.agg lwF] false)] ⟨rfl,trivial⟩ ?_
  exact QaN (Shift.drop (o':=[]) (t':=t+1) (by simp [XT]) (lR _) (zL _)) (k _)
 exact e1
theorem QFT (hT:Qf Tryz.prog tab) (F:Fmt Tryz.prog G0) {t:Nat} (k:∀ v0 v1 v2 v3 v4 t,W Tryz.prog G0 159 0 (X8 7 proofmarklaw23_works.body) (lwB v0) ⟨t,kG F.fmt v0 v1 v2 v3 v4 g0⟩ (QkX G0 proofmarklaw23_works.res Q)) :
 W Tryz.prog G0 159 0 (X8 4 proofmarklaw23_works.body) [(2,.lst 5 [.agg lwF] false)] ⟨t,[]⟩ (QkX G0 proofmarklaw23_works.res Q):=by
 obtain ⟨T2,hT2⟩:∃ c,c=X8 7 proofmarklaw23_works.body:=⟨_,rfl⟩
 rw [dw4,dw5,dw6,← hT2]
 refine Qg 40 ?_
 refine ya ?_
 refine call hT Qjq (k_New hT F.fmt) 30 fun v σ hv=>?_
 obtain ⟨v0,v1,v2,v3,v4,t1,ht1,rfl,rfl⟩:=hv
 refine ya ?_
 have hfC:lwF.length=5:=rfl
 have hfO:ones lwF=True:=eq_true fun u hu=>by
  simp only [lwF,fnC,Y9,Xv,List.mem_cons,List.not_mem_nil,or_false] at hu
  rcases hu with rfl | rfl | rfl | rfl | rfl <;> rfl
 have hfT:lwF.take 5=lwF:=rfl
 simp -implicitDefEqProofs (disch:=omega) only [go_sem,hfC,hfT]
 refine call hT QfM (QDA hT F (nameAt 0) 0 lwc 0 lwK (by omega) 0 0 (by omega) (by simp)) 14 fun v σ hv=>?_
 obtain ⟨L,t2,w2,w3,w4,ws,hL,hE,hLl,hA,hS,rfl,rfl⟩:=hv
 have e0:max (0:Int) 0=0:=rfl
 have ec:Qya 0 0=0:=rfl
 rw [e0,ec] at hL ⊢
 have hsl:=QhC L 0 32 (.sl 10 ws 0 1 0 none) true
 have htk:List.take 34 (stC L 0 32 (.sl 10 ws 0 1 0 none) true)=stC L 0 32 (.sl 10 ws 0 1 0 none) true:=List.take_of_length_le (by omega)
 have hon:ones (stC L 0 32 (.sl 10 ws 0 1 0 none) true)=True:=eq_true (by
  unfold stC Qfb
  intro c hc
  simp only [List.mem_append,List.mem_map,List.mem_cons,List.not_mem_nil,or_false] at hc
  rcases hc with ⟨r,_,rfl⟩ | rfl | rfl <;> rfl)
 have g6:=QpB (L:=L) (b:=0) (sl:=.sl 10 ws 0 1 0 none) (sure:=true) (k:=6) (by omega)
 rw [decide_eq_true (rfl:(0:Int)=0)]
 obtain ⟨sc,hsc⟩:∃ sc,sc=stC L 0 32 (.sl 10 ws 0 1 0 none) true:=⟨_,rfl⟩
 rw [← hsc] at hsl htk hon g6 ⊢
 simp -implicitDefEqProofs (disch:=omega) only [go_sem,↓reduceIte,rA,rq,rL,rT,Int.reduceToNat,Int.reduceLE,QiR,QCu,QCt,hsl,hon,g6]
 rw [hT2]
 subst hsc hL
 refine QaN (Qwc (k:=5) rfl (by rfl)) ?_
 have hz:(stC (bgS [] 0 0) 0 32 (.sl 10 ws 0 1 0 none) true).map (XR 10 ws [])=sC rs0 (.lst 1 [] false) true:=by
  have h:=QP0 (k:=10) (w:=ws) (rs:=rs0) (ss:=[]) (sure:=true)
  rw [stC_sC]
  change V.agg (Qp9 _ _ _ _)=_ at h
  rw [QgS] at h
  exact V.agg.inj h
 have e1:QN (XR (5+5) ws (Y7 (bgS [] 0 0) 0 0)) 0 ([none,none,none,none,none,some (Ob.arr ws 36 (Y7 (bgS [] 0 0) 0 0)),some (Ob.arr t2 40 (stC (bgS [] 0 0) 0 32 (V.sl 10 ws 0 1 0 none) true))].set 5 none)=[none,none,none,none,none,none,some (Ob.arr t2 40 (sC rs0 (.lst 1 [] false) true))]:=by
  rw [← hz]; rfl
 rw [e1]
 refine QaN (Qwc (k:=6) rfl (QpH _ _)) ?_
 refine QaN QBG ?_
 have e6:Ql4 (bgS [] 0 0) 0 6=5:=by kernel_rfl
 rw [e6]
 have hn:sC rs0 (V.lst 1 [] false) true≠[]:=by simp [sC]
 have ef:Qby (5+6) t2 (sC rs0 (V.lst 1 [] false) true) (Qby (5+5) ws (Y7 (bgS [] 0 0) 0 0) [(2,V.lst 5 [V.agg lwF] false),(4,V.ptr 1 v0 0),(5,V.ptr 11 t2 0),(7,V.int IntKind.i64 5)])=lwB v0:=by
  simp only [Qr,Qv,XR,rA,rq,false_and,true_and,if_false,if_true,hn]
  rfl
 rw [ef]
 exact k v0 v1 w2 w3 w4 _
theorem QFS (hT:Qf Tryz.prog tab) (F:Fmt Tryz.prog G0) {t:Nat} (k:∀ v0 v1 v2 v3 v4 t,W Tryz.prog G0 159 0 (X8 7 proofmarklaw23_works.body) (lwB v0) ⟨t,kG F.fmt v0 v1 v2 v3 v4 g0⟩ (QkX G0 proofmarklaw23_works.res Q)):C Tryz.prog G0 0 Q9 [] ⟨t,[]⟩ Q :=
 QFU hT fun _=>QFT hT F k
end
def PS (fmt:Int→List UInt8) (L:List Nd) (rs:List Int) (e:V) (v0 v1 t:Nat) (ex:List (Option Ob)):V→H→Prop:=fun v σ=>v=.tup [.agg (sC rs (.lst 1 [] false) true),e]∧∃ t' w2 w3 w4,t≤t'∧σ=⟨t',kG fmt v0 v1 w2 w3 w4 L++ex⟩
def rs1:List Int:=Qwj rs0 5 gq1.1
def rs2:List Int:=Qwj rs0 5 gq2.1
def rs3:List Int:=Qwj rs0 5 gq3.1
def szA:Bool:=decide (g0.length≤1000)&&(decide (gq1.2.length≤1000)&&(decide (gq2.2.length≤1000)&&(decide (gq3.2.length≤1000)&&decide (gq4.2.length≤1000))))
theorem szA_t:szA=true:=by kernel_rfl
theorem szs:g0.length≤1000∧gq1.2.length≤1000∧gq2.2.length≤1000∧gq3.2.length≤1000∧gq4.2.length≤1000:=by
 have h:=szA_t
 unfold szA at h
 simpa only [Bool.and_eq_true,decide_eq_true_eq] using h
theorem lf05:Qp2 g0 5=true:=by kernel_rfl
theorem lf00:Qp2 g0 0=true:=by kernel_rfl
theorem lf10:Qp2 gq1.2 0=true:=by kernel_rfl
theorem lf15:Qp2 gq1.2 5=true:=by kernel_rfl
theorem lf34:Qp2 gq3.2 4=true:=by kernel_rfl
theorem lf35:Qp2 gq3.2 5=true:=by kernel_rfl
theorem OfL {L:List Nd} {x:Int} (hT:Qf Tryz.prog tab) (SO:Qe8 Tryz.prog) {fmt:Int→List UInt8} (hok:okN L) (hL:L.length≤1000) (h:Qp2 L x=true):OfC Tryz.prog G0 fmt L x :=
 QFh hT SO hok (by omega) (QuP h).1 (QuP h).2.1 (QuP h).2.2
section
variable (hT:Qf Tryz.prog tab) (F:Fmt Tryz.prog G0) (SO:Qe8 Tryz.prog) (hP:Bits Tryz.prog G0) {v0 v1 v2 v3 v4 t:Nat} {ex:List (Option Ob)} (hex:Still ex)
include hT F SO hP hex
theorem sst0:C Tryz.prog G0 0 Qaa [.ptr 1 v0 0,.agg lwF,.agg (sC rs0 (.lst 1 [] false) true),.int .i64 0] ⟨t,kG F.fmt v0 v1 v2 v3 v4 g0++ex⟩ (PS F.fmt gq1.2 rs1 (eff 0 0 0 (-1) (-1) 0) v0 v1 t ex):=by
 have z:=szs
 exact QqO (ss:=[]) hex (Qnj hT (n:=0) (nm:=nameAt 0) (pl:=0) (FF:=0) (K:=lwK) (ss:=[]) (tg:=false) (c:=lwc) (x:=⟨22,5,6,0,7⟩) (rd:=5) (r1:=6) (r2:=0) (a:=5) (b:=0) (r:=gq1) QpK (by decide) rfl (by decide) (by decide) (by kernel_rfl) rfl rfl rfl (by decide) (by rw [QrD]; rfl) (by rw [QrD]; rfl) (.inr rfl) rfl rfl rfl rfl rfl ne1
  (fun v2 v3 v4 t ex=>QCy hT F hP 30 (o:=1) (by kernel_rfl) rfl rfl (ops_22 hT) (by omega) rfl (by unfold i64; decide) ok0 (by omega) (OfL hT SO ok0 (by omega) lf05) (OfL hT SO ok0 (by omega) lf00) (by omega) b1))
theorem sst1:C Tryz.prog G0 0 Qaa [.ptr 1 v0 0,.agg lwF,.agg (sC rs0 (.lst 1 [] false) true),.int .i64 1] ⟨t,kG F.fmt v0 v1 v2 v3 v4 gq1.2++ex⟩ (PS F.fmt gq2.2 rs2 (eff 0 0 0 (-1) (-1) 0) v0 v1 t ex):=by
 have z:=szs
 exact QqO (ss:=[]) hex (Qnj hT (n:=1) (nm:=nameAt 0) (pl:=0) (FF:=0) (K:=lwK) (ss:=[]) (tg:=false) (c:=lwc) (x:=⟨35,5,0,6,0⟩) (rd:=5) (r1:=0) (r2:=6) (a:=0) (b:=5) (r:=gq2) QpK (by decide) rfl (by decide) (by decide) (by kernel_rfl) rfl rfl rfl (by decide) (by rw [QrD]; rfl) (by rw [QrD]; rfl) (.inr rfl) rfl rfl rfl rfl rfl ne2
  (fun v2 v3 v4 t ex=>QCy hT F hP 30 (o:=15) (by kernel_rfl) rfl rfl (ops_35 hT) (by omega) rfl (by unfold i64; decide) o1.ok (by omega) (OfL hT SO o1.ok (by omega) lf10) (OfL hT SO o1.ok (by omega) lf15) (by omega) b2))
omit SO hP in
theorem sst2:C Tryz.prog G0 0 Qaa [.ptr 1 v0 0,.agg lwF,.agg (sC rs0 (.lst 1 [] false) true),.int .i64 2] ⟨t,kG F.fmt v0 v1 v2 v3 v4 gq2.2++ex⟩ (PS F.fmt gq3.2 rs3 (eff 0 0 0 (-1) (-1) 0) v0 v1 t ex):=by
 have z:=szs
 exact QqO (ss:=[]) hex (Qnj hT (n:=2) (nm:=nameAt 0) (pl:=0) (FF:=0) (K:=lwK) (ss:=[]) (tg:=false) (c:=lwc) (x:=⟨1,5,0,0,4096⟩) (rd:=5) (r1:=0) (r2:=0) (a:=0) (b:=0) (r:=gq3) QpK (by decide) rfl (by decide) (by decide) (by kernel_rfl) rfl rfl rfl (by decide) (by rw [QrD]; rfl) (by rw [QrD]; rfl) (.inr rfl) rfl rfl rfl rfl rfl ne3
  (fun v2 v3 v4 t ex=>QFf hT F (by kernel_rfl) (by unfold i64; decide) (by omega)))
theorem sst3:C Tryz.prog G0 0 Qaa [.ptr 1 v0 0,.agg lwF,.agg (sC rs0 (.lst 1 [] false) true),.int .i64 3] ⟨t,kG F.fmt v0 v1 v2 v3 v4 gq3.2++ex⟩ (PS F.fmt gq4.2 rs0 (eff 1 5 0 gq4.1 (-1) 0) v0 v1 t ex):=by
 have z:=szs
 exact QqO (ss:=[]) (to:=5) hex (QFg hT (n:=3) (nm:=nameAt 0) (pl:=0) (FF:=0) (K:=lwK) (ss:=[]) (tg:=false) (c:=lwc) (x:=⟨5,0,5,6,8⟩) (rd:=0) (r1:=5) (r2:=6) (a:=4) (b:=5) (r:=gq4) QpK (by decide) rfl (by decide) (by decide) (by kernel_rfl) rfl rfl rfl (by decide) (by rw [QrD]; rfl) (by rw [QrD]; rfl) (by decide) (by decide) (by unfold i64; decide)
  (fun v2 v3 v4 t ex=>QFi hT F hP 30 (by kernel_rfl) (by decide) o3.ok (by omega) (OfL hT SO o3.ok (by omega) lf34) (OfL hT SO o3.ok (by omega) lf35) (by omega) b4))
end
end Go.Proofs.YtbdhjeojcpgblaaGreatDoor
