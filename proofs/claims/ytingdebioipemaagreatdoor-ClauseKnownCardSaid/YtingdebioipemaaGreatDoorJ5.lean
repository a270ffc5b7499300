/- A formula's text, walked: the whole. -/
import Derived.Test.YtingdebioipemaaGreatDoorJ4
import Derived.Deep.Cut
import Derived.Lib.BufferOld
import Derived.Test.YtingdebioipemaaGreatDoorAmD
import Derived.Test.YtingdebioipemaaGreatDoorJ1
open Nat renaming reduceEqDiff → rq, reduceAdd → rA, reduceLeDiff → rL, reduceLT → rT, zero_add → zA, le_refl → lR, zero_le → zL, add_zero → aZ
open List renaming length_cons → lC, length_nil → lN, take_succ_cons → tS, length_append → lAq, nil_append → nAq, cons_append → cAq, append_assoc → aA, take_nil → tN, take_zero → tZ, length_map → lM
open Bool renaming not_false → nFq, not_true → nT
namespace Go.Proofs.YtingdebioipemaaGreatDoor
open Go Go.Am Go.Cl Go.RowKit
set_option maxRecDepth 100000
variable {G:Nat→Option V}
set_option maxHeartbeats 4000000 in
theorem w_Put (hT:Qn Tryz.prog tab) (K:QuX Tryz.prog) (It:QeR Tryz.prog G) (v:Int) (F:List (List Int)) (hF:F.length≤1000) (hc:∀ c∈F,c.length≤1000) {I:Imm} {ρ:Names} {w:World} {t:Nat} (R:Rel G I ρ ⟨t,[]⟩ w) (a:Option Addr) (cap:Nat)
 (hv:VR I ρ (fml v F) (.agg #[.int .i64 v,.slice a F.length cap])) (hr:right v F=true) :
 Calls Tryz.prog 7 #[.agg #[.int .i64 v,.slice a F.length cap]] w fun e w'=>∃ s,e=.returned (.tuple #[s,.int .i64 0])∧w'.ownsRow (w.heap.size+1) 5 1 s (QbU v F).length (Lib.byteCells (QbU v F))∧Below w.heap.size w w':=by
 have hR:=QcC (P:=Tryz.prog) (G:=G) hT v F (by omega) (fun c h=>by have:=hc c h; omega)
 rw [hr] at hR
 have kR:∀ w1,Below w.heap.size w w1→Calls Tryz.prog 16 #[.agg #[.int .i64 v,.slice a F.length cap]] w1 fun e w'=>e=.returned (.bool true)∧Below w1.heap.size w1 w':=fun w1 h1 =>
  (Qto (hR t) (QfF R h1) (QlY hv)).mono fun e w' ⟨u,x,I',ρ',σ',e1,e2,_,_,e5,_,e7⟩=>by
   subst e7; rw [QBt e2] at e1; exact ⟨e1,e5⟩
 have hrt:=Xh.1 hr
 have hnz:∀ c∈F,∀ n∈c,n≠0∧-16777216≤n∧n≤16777216:=fun c h n hn=>by
  have:=hrt.2 c h n hn
  have:=hrt.1
  omega
 go_enter Tryz.func7,Tryz.ntmps7
 go_wp2_with (go_at_call 16; refine (kR _ ((Below.refl _ w).alloc (lR _) _)).mono ?_; rintro e w1 ⟨rfl,h1⟩)
 go_wp2
 refine Qrw (t:=headT) (kd:=fun i=>if i=11 then 2 else if i=2∨i=8 then 1 else 0) (S:=QAQ w.heap.size) (by kernel_rfl) (by kernel_rfl) ?_
 unfold headT
 have hw2:∃ w2,w2=(w1.alloc (Obj.cells #[.slice none 0 0,.int .i64 0,.int .i8 0] 55)).drew:=⟨_,rfl⟩
 obtain ⟨w2,hw2⟩:=hw2
 rw [← hw2]
 have hsz1:w1.heap.size≥w.heap.size+1:=by have:=h1.size; simpa using this
 have hv64:-9223372036854775808≤v∧v≤9223372036854775807:=by have:=hrt.1; omega
 have h1s:w.heap.size+1≤w1.heap.size:=by have:=h1.size; simpa using this
 have hBw1:Below w.heap.size w w1:=((Below.refl _ w).alloc (lR _) _).trans (h1.mono (by simp))
 have hB2:Below w.heap.size w w2:=by rw [hw2]; exact (hBw1.alloc (by omega) _).drew
 have hf1:=Qa1 hv64
 have hf2:=Qa1 (n:=(F.length:Int)) (by omega)
 have hl1:6+(Qw v).length≤9223372036854775807:=by omega
 have hl2:6+(Qw v).length≤9223372036854775806:=by omega
 have hl3:6+(Qw v).length+1+(Qw F.length).length≤9223372036854775807:=by omega
 have hl4:6+(Qw v).length+1+(Qw F.length).length≤9223372036854775806:=by omega
 have hsz2:w2.heap.size=w1.heap.size+1:=by rw [hw2]; simp
 have c0:∀ w',Ek (QAQ w.heap.size).s w2 w'→w'.cell? ⟨w.heap.size,0,none⟩=some (.int .i64 v):=fun w' hk=>by
  rw [hk.cells _ _ rfl,hw2]
  show World.cell? (World.alloc w1 _) _=_
  rw [Lib.cell_of_heap ((Below.heap_alloc w1 _ _ (show w.heap.size<w1.heap.size by omega)).trans ((h1.block _ (show w.heap.size<(w.alloc _).heap.size by simp)).trans (heap_alloc_new w _)))]
  rfl
 have c1:∀ w',Ek (QAQ w.heap.size).s w2 w'→w'.cell? ⟨w.heap.size,1,none⟩=some (.slice a F.length cap):=fun w' hk=>by
  rw [hk.cells _ _ rfl,hw2]
  show World.cell? (World.alloc w1 _) _=_
  rw [Lib.cell_of_heap ((Below.heap_alloc w1 _ _ (show w.heap.size<w1.heap.size by omega)).trans ((h1.block _ (show w.heap.size<(w.alloc _).heap.size by simp)).trans (heap_alloc_new w _)))]
  rfl
 refine QjR (v:=.pointer (some ⟨w.heap.size,0,none⟩)) 12 rfl ⟨rfl,rfl⟩ (fun w' hk=>?_) ?_
 ·go_simp
 refine QjR (v:=.int .i64 v) 13 rfl ⟨rfl,rfl⟩ (fun w' hk=>?_) ?_
 ·have:=c0 w' hk
  go_simp
 refine QjR (v:=.pointer (some ⟨w.heap.size,1,none⟩)) 17 rfl ⟨rfl,rfl⟩ (fun w' hk=>?_) ?_
 ·go_simp
 refine QjR (v:=.slice a F.length cap) 18 rfl ⟨rfl,rfl⟩ (fun w' hk=>?_) ?_
 ·have:=c1 w' hk
  go_simp
 refine QjR (v:=.int .i64 F.length) 19 rfl ⟨rfl,rfl⟩ (fun w' hk=>?_) ?_
 ·go_simp
 refine Qmn (f:=22) (args:=#[.int .i64 v]) 14 rfl ⟨rfl,rfl⟩ (by go_simp) (QdX It hv64 R hB2) (fun e w3 ⟨he,hb3⟩=>⟨_,he,Qf5 hb3 (by omega),Qf5 hb3 (by omega),?_⟩)
 refine QjR (v:=.string (⟨#[112,32,99,110,102,32]⟩++⟨(Qw v).toArray⟩)) 15 rfl ⟨rfl,rfl⟩ (fun w' hk=>?_) ?_
 ·go_simp
 refine QjR (v:=.string (⟨#[112,32,99,110,102,32]⟩++⟨(Qw v).toArray⟩++⟨#[32]⟩)) 16 rfl ⟨rfl,rfl⟩ (fun w' hk=>?_) ?_
 ·go_simp
 have hB3:Below w.heap.size w w3:=hB2.trans (hb3.mono (by omega))
 refine Qmn (f:=22) (args:=#[.int .i64 F.length]) 20 rfl ⟨rfl,rfl⟩ (by go_simp) (QdX It (by omega) R hB3) (fun e w4 ⟨he,hb4⟩=>⟨_,he,Qf5 hb4 (by have:=hb3.size; omega),Qf5 hb4 (by have:=hb3.size; omega),?_⟩)
 refine QjR (v:=.string (⟨#[112,32,99,110,102,32]⟩++⟨(Qw v).toArray⟩++⟨#[32]⟩++⟨(Qw F.length).toArray⟩)) 21 rfl ⟨rfl,rfl⟩ (fun w' hk=>?_) ?_
 ·go_simp
 refine QjR (v:=.string (⟨#[112,32,99,110,102,32]⟩++⟨(Qw v).toArray⟩++⟨#[32]⟩++⟨(Qw F.length).toArray⟩++⟨#[10]⟩)) 22 rfl ⟨rfl,rfl⟩ (fun w' hk=>?_) ?_
 ·go_simp
 have hS:(⟨#[112,32,99,110,102,32]⟩++⟨(Qw v).toArray⟩++⟨#[32]⟩++⟨(Qw F.length).toArray⟩++⟨#[10]⟩:ByteArray)=⟨(Zh v F).toArray⟩:=by
  apply ByteArray.ext
  simp [Zh,ByteArray.data_append]
 rw [hS]
 have hI4:Lib.IsBuffer 55 5 (w.heap.size+1) w1.heap.size [] w4:=by
  have hf1:Lib.IsBuffer 55 5 (w.heap.size+1) w1.heap.size [] w2:=by
   rw [hw2]
   exact ⟨h1s,.slice none 0 0,0,heap_alloc_new w1 _,World.ownsRow_nil _ _ _ _,by simp [Value.ownBlock]⟩
  exact (hf1.old hb3).old hb4
 refine Qmn (f:=21) (args:=#[.pointer (some ⟨w1.heap.size,0,none⟩),.string ⟨(Zh v F).toArray⟩]) 23 rfl ⟨rfl,rfl⟩ (by go_simp) (K.ws _ _ _ _ _ hI4 (by have:=hb3.size; have:=hb4.size; omega) (by simp) (by have:=Qlg hv64 hF; simp only [lN]; show 0+(Zh v F).toArray.size≤_; simp only [List.size_toArray]; omega)) (fun e w5 ⟨he,hI5,hb5,hk5⟩=>⟨_,he,Qj7 hb5 (by omega),Qj7 hb5 (by omega),?_⟩)
 subst he
 simp only [RTree]
 have hB5:Below w.heap.size w w5:=(hB3.trans (hb4.mono (by have:=hb3.size; omega))).trans (hb5.mono (by omega))
 have hc5:w5.cell? ⟨w.heap.size,1,none⟩=some (.slice a F.length cap):=c1 w5 ((Qf5 hb3 (by omega)).trans ((Qf5 hb4 (by have:=hb3.size; omega)).trans (Qj7 hb5 (by omega))))
 rw [nAq] at hI5
 have hI5':Lib.IsBuffer 55 5 (w.heap.size+1) w1.heap.size (Lib.byteCells (Zh v F++clB (F.take 0))) w5:=by simpa [clB] using hI5
 have hb1:=h1.size
 clear hI5 hI4 hb5 hk5 hb4 hb3 c0 c1 hB3 hw2 hB2 kR hR
 go_wp2
 go_loopw [27] (fun i wr=>∃ k:Nat,i=.int .i64 k∧k≤F.length∧Below w.heap.size w wr∧Lib.IsBuffer 55 5 (w.heap.size+1) w1.heap.size (Lib.byteCells (Zh v F++clB (F.take k))) wr) (fun i _=>F.length - (intOf i).toNat)
 case atStart=>exact ⟨0,rfl,by omega,hB5,hI5'⟩
 case round =>
  obtain ⟨k,rfl,hk,hB,hI⟩:=hrel
  by_cases hlt:k<F.length
  ·obtain ⟨c,hkc⟩:∃ c,F[k]?=some c:=⟨_,List.getElem?_eq_getElem hlt⟩
   obtain ⟨b0,o0,y,rfl,hcell,hy⟩:=QAn hv (QfF R hB) hkc
   go_upto_region 8 with fail
   have hcl:=hc c (List.mem_of_getElem? hkc)
   refine wp_W (n:=50) (base:=0) (M:=fun _=>false) (dd:=fun _=>[31,32,33]) (ac:=AC.reg QpC [31,32,33]) (by kernel_rfl) (QAo (G:=G) hT (.pointer (some ⟨w1.heap.size,0,none⟩)) (.slice (some ⟨b0,o0,none⟩) F.length cap) F.length k t c (.agg #[.int .i64 v,.slice (some ⟨b0,o0,none⟩) F.length cap]) (.pointer (some ⟨w.heap.size,0,none⟩)) (.slice none 0 0) (.int .i64 0) (undef) (undef) (.agg #[.int .i64 v,.slice (some ⟨b0,o0,none⟩) F.length cap]) (.bool true) (.bool false) (.pointer (some ⟨w.heap.size,0,none⟩)) (.int .i64 v) (.string ⟨(Qw v).toArray⟩) (.string (⟨#[112,32,99,110,102,32]⟩++⟨(Qw v).toArray⟩)) (.string (⟨#[112,32,99,110,102,32]⟩++⟨(Qw v).toArray⟩++⟨#[32]⟩)) (.pointer (some ⟨w.heap.size,1,none⟩)) (.slice (some ⟨b0,o0,none⟩) F.length cap) (.int .i64 F.length) (.string ⟨(Qw F.length).toArray⟩) (.string (⟨#[112,32,99,110,102,32]⟩++⟨(Qw v).toArray⟩++⟨#[32]⟩++⟨(Qw F.length).toArray⟩)) (.string ⟨(Zh v F).toArray⟩) (.tuple #[.int .i64 (Zh v F).length,.nilIface]) (.pointer (some ⟨w.heap.size,1,none⟩)) (undef) hcl) (QfF R hB)
    (FR_of (n:=50) rfl (by rfl) (fun p hp=>?_)) (zL _) (fun e I' ρ' fr' σ' a' w' q1 q2 q3 q4 q5=>?_)
   ·simp only [List.mem_cons,List.not_mem_nil,or_false] at hp
    rcases hp with rfl | rfl | rfl | rfl | rfl | rfl | rfl | rfl | rfl | rfl | rfl | rfl | rfl | rfl | rfl | rfl | rfl | rfl | rfl | rfl | rfl | rfl | rfl | rfl | rfl | rfl | rfl | rfl
    ·exact .val _ _
    ·exact .val _ _
    ·exact .int _ _ _
    ·exact .int _ _ _
    ·exact hy.mono (Imm.le.refl _) (fun _ _ _ h=>by cases h)
    all_goals exact .val _ _
   obtain ⟨rfl,t',wv,f4,f25,f26,f27,f34,f35,f36,f0,f1,f2,f3,f5,f7,f9,f10,f11,f12,f13,f14,f15,f16,f17,f18,f19,f20,f21,f22,f23,f24,f49,rfl⟩:=q5
   have hbw:Below wr.heap.size wr w':=⟨q3.os,q3.tape,q3.output,q3.size,fun j hj=>q3.keep j hj fun n _ e=>by simp [blk] at e⟩
   obtain ⟨g0,o2,cap2,cc,lo,hi,hx34,hcc,hcells,hblk⟩:=row_of q1 (by rw [f34]; simp) (q2.vals 34) (by simp)
   have hsz:=q2.size
   have g4:=Yu (f4▸q2.vals 4)
   have g25:=Yu (f25▸q2.vals 25)
   have g26:=QlX (f26▸q2.vals 26)
   have g27:=QlX (f27▸q2.vals 27)
   have g35:=QlX (f35▸q2.vals 35)
   have g36:=QlX (f36▸q2.vals 36)
   have gv0:=Yu (f0▸q2.vals 0)
   have gv1:=Yu (f1▸q2.vals 1)
   have gv2:=Yu (f2▸q2.vals 2)
   have gv3:=Yu (f3▸q2.vals 3)
   have gv5:=Yu (f5▸q2.vals 5)
   have gv7:=Yu (f7▸q2.vals 7)
   have gv9:=Yu (f9▸q2.vals 9)
   have gv10:=Yu (f10▸q2.vals 10)
   have gv11:=Yu (f11▸q2.vals 11)
   have gv12:=Yu (f12▸q2.vals 12)
   have gv13:=Yu (f13▸q2.vals 13)
   have gv14:=Yu (f14▸q2.vals 14)
   have gv15:=Yu (f15▸q2.vals 15)
   have gv16:=Yu (f16▸q2.vals 16)
   have gv17:=Yu (f17▸q2.vals 17)
   have gv18:=Yu (f18▸q2.vals 18)
   have gv19:=Yu (f19▸q2.vals 19)
   have gv20:=Yu (f20▸q2.vals 20)
   have gv21:=Yu (f21▸q2.vals 21)
   have gv22:=Yu (f22▸q2.vals 22)
   have gv23:=Yu (f23▸q2.vals 23)
   have gv24:=Yu (f24▸q2.vals 24)
   have gv49:=Yu (f49▸q2.vals 49)
   have hdf:=q2.defers
   have hlit:=lit_of a'.tmps
   rw [hsz] at hlit
   generalize (fun j=>a'.tmps.getD j undef)=f at hlit
   have hlit2:a'.tmps=#[f 0,f 1,f 2,f 3,f 4,f 5,f 6,f 7,f 8,f 9,f 10,f 11,f 12,f 13,f 14,f 15,f 16,f 17,f 18,f 19,f 20,f 21,f 22,f 23,f 24,f 25,f 26,f 27,f 28,f 29,f 30,f 31,f 32,f 33,f 34,f 35,f 36,f 37,f 38,f 39,f 40,f 41,f 42,f 43,f 44,f 45,f 46,f 47,f 48,f 49]:=hlit.trans rfl
   have e4:f 4=.pointer (some ⟨w1.heap.size,0,none⟩):=by rw [← g4,hlit2]; rfl
   have e25:f 25=.slice (some ⟨b0,o0,none⟩) F.length cap:=by rw [← g25,hlit2]; rfl
   have e26:f 26=.int .i64 F.length:=by rw [← g26,hlit2]; rfl
   have e27:f 27=.int .i64 k:=by rw [← g27,hlit2]; rfl
   have e34:f 34=.slice (some ⟨g0,o2,none⟩) (c++[0]).length cap2:=by rw [← hx34,hlit2]; rfl
   have e35:f 35=.int .i64 ((c.length+1:Nat):Int):=by rw [← g35,hlit2]; rfl
   have e36:f 36=.int .i64 0:=by rw [← g36,hlit2]; rfl
   have e0:f 0=.agg #[.int .i64 v,.slice (some ⟨b0,o0,none⟩) F.length cap]:=by rw [← gv0,hlit2]; rfl
   have e1:f 1=.pointer (some ⟨w.heap.size,0,none⟩):=by rw [← gv1,hlit2]; rfl
   have e2:f 2=.slice none 0 0:=by rw [← gv2,hlit2]; rfl
   have e3:f 3=.int .i64 0:=by rw [← gv3,hlit2]; rfl
   have e5:f 5=undef:=by rw [← gv5,hlit2]; rfl
   have e7:f 7=undef:=by rw [← gv7,hlit2]; rfl
   have e9:f 9=.agg #[.int .i64 v,.slice (some ⟨b0,o0,none⟩) F.length cap]:=by rw [← gv9,hlit2]; rfl
   have e10:f 10=.bool true:=by rw [← gv10,hlit2]; rfl
   have e11:f 11=.bool false:=by rw [← gv11,hlit2]; rfl
   have e12:f 12=.pointer (some ⟨w.heap.size,0,none⟩):=by rw [← gv12,hlit2]; rfl
   have e13:f 13=.int .i64 v:=by rw [← gv13,hlit2]; rfl
   have e14:f 14=.string ⟨(Qw v).toArray⟩:=by rw [← gv14,hlit2]; rfl
   have e15:f 15=.string (⟨#[112,32,99,110,102,32]⟩++⟨(Qw v).toArray⟩):=by rw [← gv15,hlit2]; rfl
   have e16:f 16=.string (⟨#[112,32,99,110,102,32]⟩++⟨(Qw v).toArray⟩++⟨#[32]⟩):=by rw [← gv16,hlit2]; rfl
   have e17:f 17=.pointer (some ⟨w.heap.size,1,none⟩):=by rw [← gv17,hlit2]; rfl
   have e18:f 18=.slice (some ⟨b0,o0,none⟩) F.length cap:=by rw [← gv18,hlit2]; rfl
   have e19:f 19=.int .i64 F.length:=by rw [← gv19,hlit2]; rfl
   have e20:f 20=.string ⟨(Qw F.length).toArray⟩:=by rw [← gv20,hlit2]; rfl
   have e21:f 21=.string (⟨#[112,32,99,110,102,32]⟩++⟨(Qw v).toArray⟩++⟨#[32]⟩++⟨(Qw F.length).toArray⟩):=by rw [← gv21,hlit2]; rfl
   have e22:f 22=.string ⟨(Zh v F).toArray⟩:=by rw [← gv22,hlit2]; rfl
   have e23:f 23=.tuple #[.int .i64 (Zh v F).length,.nilIface]:=by rw [← gv23,hlit2]; rfl
   have e24:f 24=.pointer (some ⟨w.heap.size,1,none⟩):=by rw [← gv24,hlit2]; rfl
   have e49:f 49=undef:=by rw [← gv49,hlit2]; rfl
   clear hlit hsz g4 g25 g26 g27 g35 g36 f4 f25 f26 f27 f34 f35 f36 q4 f0 f1 f2 f3 f5 f7 f9 f10 f11 f12 f13 f14 f15 f16 f17 f18 f19 f20 f21 f22 f23 f24 f49 gv0 gv1 gv2 gv3 gv5 gv7 gv9 gv10 gv11 gv12 gv13 gv14 gv15 gv16 gv17 gv18 gv19 gv20 gv21 gv22 gv23 gv24 gv49
   obtain ⟨T,ds⟩:=a'
   simp only at hlit2 hdf
   subst hlit2 hdf
   rw [e4,e25,e26,e27,e34,e35,e36,e0,e1,e2,e3,e5,e7,e9,e10,e11,e12,e13,e14,e15,e16,e17,e18,e19,e20,e21,e22,e23,e24,e49]
   clear e4 e25 e26 e27 e34 e35 e36 hx34 e0 e1 e2 e3 e5 e7 e9 e10 e11 e12 e13 e14 e15 e16 e17 e18 e19 e20 e21 e22 e23 e24 e49
   have hB':Below w.heap.size w w':=hB.trans (hbw.mono (by have:=hB.size; omega))
   have hI':=hI.old hbw
   have hg0:wr.heap.size≤g0:=by
    rcases q3.owned 0 g0 (zL _) hblk with h | ⟨_,_,h⟩
    ·exact h
    ·simp [blk] at h
   have hwr:w.heap.size+1<wr.heap.size:=by have:=hI.lt; omega
   have hlt1:=hI.lt
   have hbz0:=hbw.size
   clear q1 q2 q3 hbw
   obtain ⟨wo,rfl⟩:∃ wo:World,wo=wr:=⟨_,rfl⟩
   simp only [lAq,lC,lN] at *
   go_wp2
   go_loopw [36] (fun i wq=>∃ m:Nat,i=.int .i64 m∧m≤c.length+1∧Below w.heap.size w wq∧wq.heap[g0]?=some (.cells cc 3 (lo,hi))∧w.heap.size+1<wq.heap.size∧Lib.IsBuffer 55 5 (w.heap.size+1) w1.heap.size (Lib.byteCells (Zh v F++clB (F.take k)++inB c m)) wq) (fun i _=>c.length+1 - (intOf i).toNat)
   case atStart=>exact ⟨0,rfl,by omega,hB',hcc,by omega,by simpa [inB,Zt] using hI'⟩
   case round =>
    obtain ⟨m,rfl,hm,hBq,hcq,hsq,hIq⟩:=hrel
    by_cases hmlt:m<c.length+1
    ·obtain ⟨n,hn⟩:∃ n,(c++[0])[m]?=some n:=⟨_,List.getElem?_eq_getElem (by simpa using hmlt)⟩
     have hcn:=hcells m n hn
     have hcell2:wr.cell? ⟨g0,o2+m,none⟩=some (.int .i64 n):=by simp [World.cell?,hcq,hcn]
     have hgq:g0<wr.heap.size:=(Array.getElem?_eq_some_iff.1 hcq).1
     have hne:some g0≠some w1.heap.size:=fun e=>by injection e with e; omega
     have hty:∀ (x:Array Value) (fz:Nat × Nat),Obj.cells cc 3 (lo,hi)≠Obj.cells x 5 fz:=fun x fz e=>by injection e with _ e _; cases e
     by_cases hmc:m<c.length
     ·have hcn':c[m]?=some n:=by rwa [List.getElem?_append_left hmc] at hn
      have hnb:=hnz c (List.mem_of_getElem? hkc) n (List.mem_of_getElem? hcn')
      have hlen:=lens hv64 hF hc hnz hkc (m:=m) (by omega)
      have hfn:=Qa1 (n:=n) (by omega)
      go_wp2_with (go_at_call 22; refine (QdX (n:=n) It (by omega) R hBq).mono ?_; rintro e wz ⟨rfl,hbz⟩; refine Hid.out ?_)
      refine Lib.hid ?_
      have hIz:=hIq.old hbz
      go_wp2_with (go_at_call 21; refine (K.ws (w.heap.size+1) w1.heap.size _ ⟨(Qw n).toArray⟩ wz hIz (by have:=hbz.size; omega) (Lib.byteCells_one _) (by rw [Lib.byteCells_length]; show _+(Qw n).toArray.size≤_; simp only [List.size_toArray]; omega)).mono ?_; rintro e wy ⟨rfl,hIy,hby,hky⟩; refine Hid.out ?_)
      refine Lib.hid ?_
      have hn0:¬ n=0:=by omega
      rw [← Lib.byteCells_append] at hIy
      have hI2:Lib.IsBuffer 55 5 (w.heap.size+1) w1.heap.size _ wy:=hIy
      go_wp2_with (go_at_call 24; refine (K.wb (w.heap.size+1) w1.heap.size _ 32 wy hIy (by have:=hbz.size; have:=hby.size; omega) (Lib.byteCells_one _) (by rw [Lib.byteCells_length,lAq]; omega)).mono ?_; rintro e wx ⟨rfl,hIx,hbx,hkx⟩)
      go_roundw
      case rel =>
       have s1:=hbz.size
       have s2:=hby.size
       have s3:=hbx.size
       have c1:=(hbz.block g0 hgq).trans hcq
       have c2:=hky g0 _ c1 hne hty
       (repeat apply Exists.intro (α:=Value))
       refine And.intro ?_ rfl
       refine ⟨m+1,rfl,by omega,((hBq.trans (hbz.mono (by omega))).trans (hby.mono (by omega))).trans (hbx.mono (by omega)),hkx g0 _ c2 hne hty,by omega,?_⟩
       rw [Que hmc hcn',← aA,← aA,QdI]
       exact hIx
      case measure=>simp [intOf]; omega
     ·have hmc':m=c.length:=by omega
      subst hmc'
      have hn0:n=0:=by rw [List.getElem?_append_right (lR _)] at hn; simpa using hn.symm
      subst hn0
      have hlen:=lens hv64 hF hc hnz hkc (m:=c.length) (by omega)
      have hs0:(Qw 0).toArray.size=1:=by rw [Qhb]; rfl
      go_wp2_with (go_at_call 22; refine (QdX (n:=0) It (by omega) R hBq).mono ?_; rintro e wz ⟨rfl,hbz⟩; refine Hid.out ?_)
      refine Lib.hid ?_
      have hIz:=hIq.old hbz
      go_wp2_with (go_at_call 21; refine (K.ws (w.heap.size+1) w1.heap.size _ ⟨(Qw 0).toArray⟩ wz hIz (by have:=hbz.size; omega) (Lib.byteCells_one _) (by rw [Lib.byteCells_length]; show _+(Qw 0).toArray.size≤_; rw [hs0]; omega)).mono ?_; rintro e wy ⟨rfl,hIy,hby,hky⟩)
      go_roundw
      case rel =>
       have s1:=hbz.size
       have s2:=hby.size
       have c1:=(hbz.block g0 hgq).trans hcq
       (repeat apply Exists.intro (α:=Value))
       refine And.intro ?_ rfl
       refine ⟨c.length+1,rfl,by omega,(hBq.trans (hbz.mono (by omega))).trans (hby.mono (by omega)),hky g0 _ c1 hne hty,by omega,?_⟩
       rw [← Lib.byteCells_append] at hIy
       rw [Quf,← aA]
       rw [Qhb] at hIy
       exact hIy
      case measure=>simp [intOf]
    ·have hmc:m=c.length+1:=by omega
     subst hmc
     have hlen:=lens hv64 hF hc hnz hkc (m:=c.length+1) (by omega)
     go_wp2_with (go_at_call 24; refine (K.wb (w.heap.size+1) w1.heap.size _ 10 wr hIq (by omega) (Lib.byteCells_one _) (by rw [Lib.byteCells_length]; omega)).mono ?_; rintro e wx ⟨rfl,hIx,hbx,hkx⟩)
     go_roundw
     case rel =>
      refine ⟨k+1,rfl,by omega,hBq.trans (hbx.mono (by omega)),?_⟩
      rw [Qoa hkc,← aA,QAM,← aA,QdI]
      exact hIx
     case measure=>simp [intOf]; omega
  ·have hk':k=F.length:=by omega
   subst hk'
   go_wp2_with (go_at_call 25; refine (K.by_ _ _ _ _ hI).mono ?_; rintro e wz ⟨sv,rfl,hown,nq,rfl⟩)
   go_wp2
   go_ret2
   rw [List.take_length,Lib.byteCells_length] at hown
   exact ⟨sv,rfl,hown,hB.trans ⟨rfl,rfl,rfl,lR _,fun _ _=>rfl⟩⟩
section
attribute [local go_sem] nFq lR zA zL Qca zq4_0 zq4_1 QvP QvO QvN QvM QvL QvK QvJ QvI zq4_2 zq4_3 zq4_4 zq4_5 zq4_6 zq4_7 QpC zq4_9
def Qg (l:List UInt8):List V:=l.map fun b=>.int .u8 b.toNat
theorem QdH:∀ l,Qb (Qg l)=true
 | []=>rfl
 | _::l=>by simpa [Qg,Qb,Qd] using QdH l
theorem QAU {I:Imm} {ρ:Names} {v:Int} {F:List (List Int)} {x:Value} (h:VR I ρ (fml v F) x):∃ a cap,x=.agg #[.int .i64 v,.slice a F.length cap]:=by
 generalize hu:fml v F=u at h
 cases h with
 | agg _ l cs h1 h2 =>
   injection hu with hu
   subst hu
   have hs:cs.size=2:=h1.symm
   obtain ⟨y,z,rfl⟩:∃ y z,cs=#[y,z]:=⟨cs[0],cs[1],by
    apply Array.ext
    ·simp [hs]
    ·intro j h1 h2
     have:j=0∨j=1:=by omega
     rcases this with rfl | rfl <;> rfl⟩
   have h3:=QlX (h2 0 (.int .i64 v) y rfl rfl)
   have h4:=h2 1 (rows F) z rfl rfl
   subst h3
   clear h2
   generalize hu:rows F=u at h4
   cases h4 with
   | lst _ sz l _ b o cap f g0 =>
     injection hu with e1 e2 e3
     subst e1 e2
     exact ⟨some ⟨b,o,none⟩,cap,by simp⟩
   | lstN _ _ _ a cap =>
     injection hu with e1 e2 e3
     have:F=[]:=by simpa using e2
     subst this
     exact ⟨a,cap,rfl⟩
   | _=>unfold rows at hu; cases hu
 | _=>cases hu
theorem Qs5 (hT:Qn Tryz.prog tab) (K:QuX Tryz.prog) (It:QeR Tryz.prog G) (v:Int) (F:List (List Int)) (hF:F.length≤1000) (hc:∀ c∈F,c.length≤1000) (hr:right v F=true) (t:Nat) :
 C Tryz.prog G 0 Zg [fml v F] ⟨t,[]⟩ fun u σ=>u=.tup [.sl 0 t 0 1 (QbU v F).length none,.int .i64 0]∧σ=⟨t+1,[some (.arr t 5 (Qg (QbU v F)))]⟩:=by
 intro I ρ w xs R hb hcs
 have hx1:xs.size=1:=hcs.1.symm
 obtain ⟨x,rfl⟩:∃ x,xs=#[x]:=⟨xs[0],by
  apply Array.ext
  ·simp [hx1]
  ·intro j h1 h2
   have:j=0:=by omega
   subst this; rfl⟩
 have hv:=hcs.2 0 _ x rfl rfl
 obtain ⟨a,cap,rfl⟩:=QAU hv
 refine (w_Put hT K It v F hF hc R a cap hv hr).mono fun e w' ⟨s,he,hown,hbel⟩=>?_
 have hpos:0<(QbU v F).length:=by simp [QbU,Zh]
 obtain ⟨_,⟨_,h0⟩ | ⟨g,cp,cur,rfl,hg,hh,h1,h2,h3,h4⟩⟩:=hown
 ·omega
 have hle:=Names.add_le (l:=.at g 0 cp) (R.fresh_none 0)
 have hup:Rel G I (ρ.add 0 t (.at g 0 cp)) ⟨t+1,[some (.arr t 5 (Qg (QbU v F)))]⟩ w'∧Step 0 I ρ ⟨t,[]⟩ w I (ρ.add 0 t (.at g 0 cp)) ⟨t+1,[some (.arr t 5 (Qg (QbU v F)))]⟩ w':=by
  refine R.upd (base:=0) (k:=0) (ob:=.arr t 5 (Qg (QbU v F))) (lR _) rfl
   (fun m hm=>by cases m with
    | zero=>exact absurd rfl hm
    | succ m=>simp) (Nat.le_succ _) hle (fun m u l h=>?_) hbel.os hbel.tape hbel.output hbel.size (fun b hb _=>hbel.block b hb)
   (.inr ⟨g,0,cp,cur,0,0,Names.add_self _ _ _ _,hh,?_,?_,.inl rfl,fun j u hu=>?_⟩) (fun b hb=>?_)
  ·rcases Names.of_add h with h | ⟨rfl,rfl⟩
   ·exact .inl h
   ·exact .inr ⟨rfl,rfl,Nat.lt_succ_self _⟩
  ·simp [Qg]; omega
  ·simp at h3; omega
  ·simp only [Qg,List.getElem?_map,Option.map_eq_some_iff] at hu
   obtain ⟨z,hz,rfl⟩:=hu
   have hj:=(List.getElem?_eq_some_iff.1 hz).1
   refine ⟨.int .u8 z.toNat,?_,.int _ _ _,rfl⟩
   have:=congrArg (fun l=>l[j]?) h4
   simp only [List.getElem?_take,Lib.byteCells,List.getElem?_map,hz] at this
   rw [if_pos (by omega)] at this
   simpa using this
  ·left
   simp [Ob.ver,Names.add_self,Loc.block] at hb
   omega
 exact ⟨_,_,I,_,_,he,VR_two (.sl _ 0 t 0 1 _ none g 0 cp cp (Names.add_self _ _ _ _) h1 (fun m h=>by cases h) (fun _=>by omega)) (.int _ _ _),hup.1,hup.2,zL _,rfl,rfl⟩
theorem QuL (hT:Qn Tryz.prog tab) (K:QuX Tryz.prog) (It:QeR Tryz.prog G) (v:Int) (F:List (List Int)) (hF:F.length≤1000) (hc:∀ c∈F,c.length≤1000) :
 Am.Pure Tryz.prog G Zg [fml v F] fun u=>u=if right v F=true then .tup [.lst 1 (Qg (QbU v F)) false,.int .i64 0] else .tup [.lst 0 [] true,.int .i64 2]:=by
 intro t
 cases hr:right v F with
 | true =>
   refine Y6 (Qs5 hT K It v F hF hc hr t) fun u σ hu=>.inr ?_
   obtain ⟨rfl,rfl⟩:=hu
   refine ⟨0,t,5,_,zL _,rfl,QdH _,?_⟩
   have hl:(Qg (QbU v F)).length=(QbU v F).length:=by simp [Qg]
   simp [X3,Qix,Qbc,Qd,Qb,hl]
   rw [← hl,List.take_length]
 | false =>
   have hR:=QcC (P:=Tryz.prog) (G:=G) hT v F (by omega) (fun c h=>by have:=hc c h; omega)
   simp only [fml,rows] at hR ⊢
   have hnF:Qb [V.agg [V.int .i64 v,V.lst 1 (F.map row) false]]=true:=by simp [Qb,Qd]
   rw [hr] at hR
   refine Xa 0 (zL _) (QM hT XP (by simp [Qca]) (Qx 40 ?_))
   simp -implicitDefEqProofs (disch:=omega) only [go_sem,↓reduceIte,reduceCtorEq,rA,rq]
   refine Qj hT QN hR hnF 40 ?_
   simp -implicitDefEqProofs (disch:=omega) only [go_sem,↓reduceIte,reduceCtorEq,rq]
theorem Yf (l:List UInt8):((Qg l).map V.cells).flatten=Qg l:=by
 induction l with
 | nil=>rfl
 | cons b l ih=>simpa [Qg,V.cells] using ih
theorem Yg (l:List UInt8):∀ c,c∈Qg l→isByte c=true:=fun c hc=>by
 obtain ⟨b,_,rfl⟩:=List.mem_map.1 hc
 have:=b.toNat_lt
 simp [isByte]; omega
theorem Zy (l:List UInt8):(Qg l).map Qdt=l:=by
 unfold Qg
 rw [List.map_map]
 conv=>rhs; rw [← List.map_id l]
 exact List.map_congr_left fun b _=>by simp [Qdt]
end
end Go.Proofs.YtingdebioipemaaGreatDoor
namespace Go.Proofs.YtingdebioipemaaGreatDoor
open Go Go.Am Go.Cl Go.Ct
set_option maxRecDepth 100000
variable {G:Nat→Option V}
section
attribute [local go_sem] nFq aZ lR Nat.mul_one zA beq_self_eq_true Qa7 QwM QwL QqQ QqP QqO QqN QqM QqL QqK QqJ QqI QqH QwK QqG QqF QqE QqD QqC QqB QqA Qqz Qqy Qqx QwJ Qqw Qqv Qqu Qqt Qqs Qqr Qqq Qqp Qqo Qqn QwI Qqm Qql Qqk Qqj Qqi Qqh Qqg Qqf Qqe Qqd QwH Qqc Qqb Qqa Qp9 Qp8 Qp7 QwG QwF QwE QwD bytes_genSplit QxF QxE Qrf Qme Qmd Qmc Qmb Qma Ql9 Qre Qrd QxD QxC QxB QxA Qxz Qxy Qxx Qxw decide_false decide_true Qt
variable {I:Imm}
theorem QnG {x0 x1:V} {xs:Array Value} (h:Cells I noNames [x0,x1] xs):∃ x y,xs=#[x,y]∧VR I noNames x0 x∧VR I noNames x1 y:=by
 have hx1:xs.size=2:=h.1.symm
 obtain ⟨x,y,rfl⟩:∃ x y,xs=#[x,y]:=⟨xs[0],xs[1],by
  apply Array.ext
  ·simp [hx1]
  ·intro j h1 h2
   have:j=0∨j=1:=by omega
   rcases this with rfl | rfl <;> rfl⟩
 exact ⟨x,y,rfl,h.2 0 _ x rfl rfl,h.2 1 _ y rfl rfl⟩
variable {T:Bool} {l:List UInt8}
theorem bytes_at {w:World} (hI:∀ b o x,I b o=some x→w.cell? ⟨b,o,none⟩=some x) {x:Value} (h:VR I noNames (.lst 1 (Qg l) T) x) :
 (l=[]∧∃ a cap,x=.slice a 0 cap)∨(l≠[]∧∃ b o cap,x=.slice (some ⟨b,o,none⟩) l.length cap∧l.length≤cap∧∀ i,i<l.length→w.cell? ⟨b,o+i,none⟩=some (.int .u8 ((l.map fun b:UInt8=>((b.toNat:Nat):Int)).getD i 0))):=by
 generalize hu:V.lst 1 (Qg l) T=u at h
 cases h with
 | lst _ _ l' _ b o cap f h0 h1 h2 h3 h4 h5 =>
   injection hu with e1 e2 e3
   subst e1; subst e2
   have hl:l≠[]:=fun e=>h0 (by rw [e]; rfl)
   refine .inr ⟨hl,b,o,cap,by simp [Qg],by simpa [Qg] using h1,fun i hi=>?_⟩
   have hj:(Qg l)[i]?=some (.int .u8 ((l[i].toNat:Nat):Int)):=by simp [Qg,List.getElem?_eq_getElem hi]
   have e4:=hI _ _ _ (h4 i _ hj 0 _ rfl)
   have e5:=h5 i _ hj 0 _ rfl
   rw [Nat.mul_one,aZ] at e4
   rw [e4]
   generalize f i 0=y at e5
   cases e5
   rw [List.getD_eq_getElem?_getD,List.getElem?_map,List.getElem?_eq_getElem hi]
   rfl
 | lstN _ _ _ a cap h =>
   injection hu with e1 e2 e3
   have:l=[]:=by simpa [Qg] using e2
   exact .inl ⟨this,a,cap,rfl⟩
 | _=>cases hu
theorem QjA (l:List UInt8):Lib.bytesOf (l.map fun b:UInt8=>((b.toNat:Nat):Int))=l:=by
 unfold Lib.bytesOf
 rw [List.map_map]
 conv=>rhs; rw [← List.map_id l]
 exact List.map_congr_left fun b _=>by simp
theorem byte_back (c:UInt8):((c.toNat:Nat):Int).toNat.toUInt8=c:=by simp
theorem QmS (l:List UInt8) (T:Bool) (c:UInt8) (hl:l≠[]):Am.Pure Tryz.prog G Qb2 [.lst 1 (Qg l) T,.int .u8 (c.toNat:Nat)] fun u=>u=.int .i64 (Lib.indexByte l c):=by
 refine QaC (fun I w xs hV hI hc=>?_) (by simp [Qb,Qd])
 obtain ⟨x,y,rfl,hx,hy⟩:=QnG hc
 cases hy
 rcases bytes_at hI hx with ⟨h,_⟩ | ⟨_,b,o,cap,rfl,hcap,hcell⟩
 ·exact absurd h hl
 ·refine (QAa b o l.length cap _ _ w (by simp) hcell).mono fun e w' ⟨h1,h2⟩=>?_
  subst h2
  rw [QjA,byte_back] at h1
  exact ⟨_,_,h1,.int _ _ _,rfl,rfl,Ex.refl _⟩
theorem QBf (l:List UInt8) (T:Bool) (c:UInt8):Am.Pure Tryz.prog G Qfa [.lst 1 (Qg l) T,.lst 1 (Qg [c]) true] fun u=>u=.int .i64 (l.count c:Nat):=by
 refine QaC (fun I w xs hV hI hc=>?_) (by simp [Qb,Qd])
 obtain ⟨x,y,rfl,hx,hy⟩:=QnG hc
 rcases bytes_at hI hy with ⟨h,_⟩ | ⟨_,b2,o2,d,rfl,hd,hcell2⟩
 ·cases h
 have h2:=hcell2 0 (by simp)
 simp only [aZ,List.map_cons,List.getD_cons_zero] at h2
 have fin:∀ (e:Ending) (w':World),e=.returned (.int .i64 ((l.count c:Nat):Int))∧w'=w→∃ v x,e=.returned x∧VR I noNames v x∧Qd v=true∧v=.int .i64 ((l.count c:Nat):Int)∧Ex w w':=fun e w' ⟨h1,h2⟩=>by
  subst h2
  exact ⟨_,_,h1,.int _ _ _,rfl,rfl,Ex.refl _⟩
 rcases bytes_at hI hx with ⟨h,a,cap,rfl⟩ | ⟨_,b,o,cap,rfl,hcap,hcell⟩
 ·subst h
  cases a with
  | none=>exact (Qmh cap b2 o2 d _ w h2).mono fin
  | some a =>
    refine (QrD a 0 cap b2 o2 d [] _ w rfl (fun i hi=>by omega) h2).mono fun e w' h=>fin e w' ?_
    exact h
 ·refine (QrD ⟨b,o,none⟩ l.length cap b2 o2 d (l.map fun b:UInt8=>((b.toNat:Nat):Int)) _ w (by simp) (fun i hi=>?_) h2).mono fun e w' h=>fin e w' ?_
  ·have e:(⟨b,o,none⟩:Addr).add i=⟨b,o+i,none⟩:=by unfold Addr.add; by_cases h0:i=0 <;> simp [h0]
   rw [e]; exact hcell i hi
  ·rw [QjA,byte_back] at h
   exact h
theorem Xu (l:List UInt8):(Qg l).length=l.length:=by simp [Qg]
theorem YM (l:List UInt8) (m:Nat):(Qg l).take m=Qg (l.take m):=by simp [Qg,List.map_take]
theorem ZV (l:List UInt8) (m:Nat):(Qg l).drop m=Qg (l.drop m):=by simp [Qg,List.map_drop]
theorem QjB (c:UInt8):Qg [c]=[.int .u8 (c.toNat:Nat)]:=rfl
theorem QuO (hT:Qn Tryz.prog tab) (l:List UInt8) (T:Bool) (c:UInt8) (hl:l≠[]):Am.Pure Tryz.prog G Qe8 [.lst 1 (Qg l) T,.lst 1 (Qg [c]) true] fun u=>u=.int .i64 (Lib.indexByte l c):=by
 have h:=QmS (G:=G) l T c hl
 rw [QjB]
 intro t
 have c1:((1:Nat):Int)=1:=rfl
 have n1:¬ (1:Int)=0:=by decide
 have n2:((1:Int)==0)=false:=rfl
 refine Xa 0 (zL _) (QM hT QeV (by simp [Qa7]) (Qx 14 ?_))
 simp -implicitDefEqProofs (disch:=omega) only [go_sem,↓reduceIte,reduceCtorEq,rq,c1]
 refine Qc 12 ?_
 simp -implicitDefEqProofs (disch:=omega) only [go_sem,↓reduceIte,reduceCtorEq,rq,n2]
 refine Qc 16 ?_
 simp -implicitDefEqProofs (disch:=omega) only [go_sem,↓reduceIte,reduceCtorEq,rq,rT,Int.reduceToNat,Int.reduceLE]
 refine Qj hT QfM h (by simp [Qb,Qd]) 16 ?_
 simp -implicitDefEqProofs (disch:=omega) only [go_sem,↓reduceIte,reduceCtorEq,rq]
def spC (d:List (List UInt8)) (k:Nat):List V:=d.map (fun w=>.lst 1 (Qg w) true)++List.replicate k (.lst 0 [] true)
theorem QhJ (d:List (List UInt8)) (k:Nat):(spC d k).length=d.length+k:=by simp [spC]
variable {i:Nat}
theorem QjQ {d:List (List UInt8)} (hd:d.length=i) (w:List UInt8) (k:Nat) (x:V) (hx:x=.lst 1 (Qg w) true):List.take i (spC d (k+1))++[x]++List.drop (i+1) (spC d (k+1))=spC (d++[w]) k:=by
 subst hd; subst hx
 have h1:List.take d.length (spC d (k+1))=d.map (fun w=>V.lst 1 (Qg w) true):=by
  unfold spC
  rw [List.take_append_of_le_length (by simp),List.take_of_length_le (by simp)]
 have h2:List.drop (d.length+1) (spC d (k+1))=List.replicate k (.lst 0 [] true):=by
  unfold spC
  rw [List.drop_append]
  simp
 rw [h1,h2]
 simp [spC]
abbrev gsJ (t0:Nat) (l:List UInt8) (T:Bool) (c:UInt8) (N:Nat):Nat→Fr→H→Prop:=fun i fr σ=>∃ (s:List UInt8) (d:List (List UInt8)),d.length=i∧d++splitB c s=splitB c l∧s.count c+i=N∧s.length≤l.length∧Qi fr 0=.lst 1 (Qg s) T∧Qi fr 1=.lst 1 (Qg [c]) true∧Qi fr 2=.int .i64 0∧Qi fr 3=.int .i64 (N:Int)∧Qi fr 9=.sl 0 t0 0 1 (N+1) none∧Qi fr 10=.int .i64 (i:Int)∧σ=⟨t0+1,[some (.arr t0 25 (spC d (N+1 - i)))]⟩
abbrev gsE (t0:Nat) (l:List UInt8) (T:Bool) (c:UInt8) (N:Nat):AE→Fr→H→Prop:=fun e fr σ=>e=.ex 0∧gsJ t0 l T c N N fr σ
theorem Qug (hT:Qn Tryz.prog tab) {t0:Nat} {c:UInt8} {N:Nat} (hN:N≤9223372036854775806) (hl:l.length≤9223372036854775806) (hi:i<N) {fr:Fr} {σ:H} (hJ:gsJ t0 l T c N i fr σ) :
 W Tryz.prog G 70 0 (.seq (zg Qme [35,36] (zw 37 .skip (.exit 0))) (.block 1 (zg Qmd [38,39,40] (.seq (zg Qmc [41] (zw 42 (.exit 0) .skip)) (zg Qmb [43,44,45,46,47,48,49,50,51,52,53] (zg Qma [54,55,56,57,58,59] (.reg Ql9 [60,61]))))))) fr σ (ZB (fun fr σ=>∃ fr' σ',Shift G 70 0 fr σ fr' σ'∧gsJ t0 l T c N (i+1) fr' σ') (gsE t0 l T c N)):=by
 obtain ⟨s,d,hd,hs,hcnt,hsl,f0,f1,f2,f3,f9,f10,rfl⟩:=hJ
 have hne:s≠[]:=fun h=>by subst h; simp at hcnt; omega
 have hX:=QuO (G:=G) hT s T c hne
 have hge:=Lib.indexByte_ge s c
 have hnn:Lib.indexByte s c≠-1:=fun h=>by
  have hn:=Lib.indexByte_none h
  have:s.count c=0:=List.count_eq_zero.2 fun hm=>by
   obtain ⟨k,hk⟩:=List.mem_iff_getElem?.1 hm
   exact hn k hk
  omega
 obtain ⟨m,hm⟩:∃ m:Nat,Lib.indexByte s c=(m:Int):=⟨(Lib.indexByte s c).toNat,by omega⟩
 obtain ⟨hm1,hm2⟩:=Lib.indexByte_some hm
 obtain ⟨hsp,hct⟩:=QrP hm1 hm2
 have hml:=(List.getElem?_eq_some_iff.1 hm1).1
 rw [hm] at hX
 have e2:=YR hi (by omega)
 have hlt:(i:Int)<(N:Int):=by omega
 have hm0:¬ (m:Int)<0:=by omega
 refine Qh [(0,.lst 1 (Qg s) T),(1,.lst 1 (Qg [c]) true),(2,.int .i64 0),(3,.int .i64 (N:Int)),(9,.sl 0 t0 0 1 (N+1) none),(10,.int .i64 (i:Int))] ⟨f0,f1,f2,f3,f9,f10,trivial⟩  1000 ?_
 simp -implicitDefEqProofs (disch:=omega) only [go_sem,↓reduceIte,reduceCtorEq,rq,hlt]
 refine Qj hT QeV hX (by simp [Qb,Qd]) 1000 ?_
 have w0:IntKind.i64.wrap ((m:Int)+0)=(m:Int):=by rw [Int.add_zero]; exact Ya .i64 (by show -9223372036854775808≤_; omega) (by show _≤9223372036854775807; omega)
 have w1:IntKind.i64.wrap ((m:Int)+((1:Nat):Int))=((m+1:Nat):Int):=YR hml (by omega)
 have hdr:List.take (s.length - (m+1)) (List.drop (m+1) (Qg s))=Qg (s.drop (m+1)):=by
  rw [ZV,YM,List.take_of_length_le (by simp)]
 have htk:List.take m (Qg s)=Qg (s.take m):=YM s m
 obtain ⟨k,hk⟩:∃ k,N - i=k:=⟨_,rfl⟩
 have hk1:N+1 - i=k+1:=by omega
 have hput:=QjQ hd (s.take m) k _ rfl
 rw [hk1]
 have hsl':i+1≤d.length+(k+1):=by omega
 simp -implicitDefEqProofs (disch:=omega) only [go_sem,↓reduceIte,reduceCtorEq,rq,Xu,and_true,hm0,w0,w1,e2,QhJ,Int.toNat_natCast,hdr,htk,Nat.sub_zero,hput,hsl']
 refine ⟨_,_,Shift.refl _ _ _ _,s.drop (m+1),d++[s.take m],by simp [hd],?_,by omega,by simp; omega,rfl,rfl,rfl,rfl,rfl,rfl,?_⟩
 ·rw [aA,List.singleton_append,← hsp]; exact hs
 ·rw [show N+1 - (i+1)=k by omega]
def QjC (w:List UInt8):V:=.lst 1 (Qg w) false
def ZW (l:List (List UInt8)):V:=.lst 1 (l.map QjC) false
theorem Qo3 (hT:Qn Tryz.prog tab) (l:List UInt8) (T:Bool) (c:UInt8) (hl:l.length≤1000000):Am.Pure Tryz.prog G QcQ [.lst 1 (Qg l) T,.lst 1 (Qg [c]) true,.int .i64 0,.int .i64 (-1)] fun u=>u=ZW (splitB c l):=by
 intro t
 have hC:=QBf (G:=G) l T c
 have hle:l.count c≤l.length:=List.count_le_length
 have c1:((1:Nat):Int)=1:=rfl
 have n1:¬ (1:Int)=0:=by decide
 have n2:((1:Int)==0)=false:=rfl
 have hcE:((l.count c:Nat):Int)+1=((l.count c+1:Nat):Int):=by omega
 have w0:IntKind.i64.wrap (((l.count c:Nat):Int)+1)=((l.count c+1:Nat):Int):=YR (n:=1000001) (by omega) (by omega)
 have w1:IntKind.i64.wrap (((l.length:Nat):Int)+1)=((l.length+1:Nat):Int):=YR (n:=1000001) (by omega) (by omega)
 have w2:¬ l.length+1<l.count c+1:=by omega
 have w3:IntKind.i64.wrap (((l.count c+1:Nat):Int) - 1)=((l.count c:Nat):Int):=by
  have:((l.count c+1:Nat):Int) - 1=((l.count c:Nat):Int):=by omega
  rw [this]; exact Ya .i64 (by show -9223372036854775808≤_; omega) (by show _≤9223372036854775807; omega)
 refine QfG (Q:=fun u _=>Qd u=true∧Wk u (ZW (splitB c l))) (Y6 (Q:=fun u σ=>∃ cells t',u=.sl 0 t 0 1 cells.length none∧σ=⟨t',[some (.arr t 25 cells)]⟩∧Qb cells=true∧(∀ u∈cells,u.cells=[u])∧WkL cells ((splitB c l).map QjC)) ?_ fun u σ hu=>?_) fun u σ hu=>?_
 ·refine QM hT QcO (by simp [bytes_genSplit]) (Qx 12 ?_)
  simp -implicitDefEqProofs (disch:=omega) only [go_sem,↓reduceIte,reduceCtorEq,rA,rq,false_implies,true_implies,true_and,not_false_eq_true]
  refine Qc 12 ?_
  simp -implicitDefEqProofs (disch:=omega) only [go_sem,↓reduceIte,reduceCtorEq,rq,Xu,c1,n2]
  refine Qc 12 ?_
  simp -implicitDefEqProofs (disch:=omega) only [go_sem,↓reduceIte,reduceCtorEq,rq,Int.reduceLT]
  refine Qj hT QjO hC (by simp [Qb,Qd]) 1000 ?_
  simp -implicitDefEqProofs (disch:=omega) only [go_sem,↓reduceIte,reduceCtorEq,rq,Xu,true_and,and_true,w0,w1,w2,w3,Int.toNat_natCast]
  refine Y7 (l.count c) (gsJ t l T c (l.count c)) (gsE t l T c (l.count c)) ⟨l,[],rfl,rfl,by omega,lR _,rfl,rfl,rfl,rfl,rfl,rfl,?_⟩ (fun i hi fr σ hJ=>Qug hT (by omega) (by omega) hi hJ) (fun i hi fr σ hJ=>?_) (fun e fr σ hE=>?_)
  ·simp [spC,List.replicate_succ]
  ·obtain ⟨s,d,hd,hs,hcnt,hsl,f0,f1,f2,f3,f9,f10,rfl⟩:=hJ
   refine Qh [(0,.lst 1 (Qg s) T),(1,.lst 1 (Qg [c]) true),(2,.int .i64 0),(3,.int .i64 ((l.count c:Nat):Int)),(9,.sl 0 t 0 1 (l.count c+1) none),(10,.int .i64 (i:Int))] ⟨f0,f1,f2,f3,f9,f10,trivial⟩ 1000 ?_
   simp -implicitDefEqProofs (disch:=omega) only [go_sem,↓reduceIte,reduceCtorEq,rq,hi,Int.lt_irrefl]
   subst hi
   exact ⟨rfl,s,d,hd,hs,hcnt,hsl,rfl,rfl,rfl,rfl,rfl,rfl,rfl⟩
  ·obtain ⟨rfl,s,d,hd,hs,hcnt,hsl,f0,f1,f2,f3,f9,f10,rfl⟩:=hE
   have hs1:splitB c s=[s]:=QeD fun b hb hbc=>by
    have:0<s.count c:=List.count_pos_iff.2 (hbc▸hb)
    omega
   rw [hs1] at hs
   have hk:l.count c+1 - l.count c=0+1:=by omega
   have hput:List.take (l.count c) (spC d (0+1))++[.lst 1 (Qg s) T]++List.drop (l.count c+1) (spC d (0+1))=d.map (fun w=>V.lst 1 (Qg w) true)++[.lst 1 (Qg s) T]:=by
    rw [← hd]; simp [spC]
   have e3:(l.count c:Int)+1=((l.count c+1:Nat):Int):=by omega
   have hlen:(d.map (fun w=>V.lst 1 (Qg w) true)++[V.lst 1 (Qg s) T]).length=l.count c+1:=by simp [hd]
   rw [hk]
   refine QO [(0,.lst 1 (Qg s) T),(1,.lst 1 (Qg [c]) true),(2,.int .i64 0),(3,.int .i64 ((l.count c:Nat):Int)),(9,.sl 0 t 0 1 (l.count c+1) none),(10,.int .i64 ((l.count c:Nat):Int))] ⟨f0,f1,f2,f3,f9,f10,trivial⟩ 1000 ?_
   have w4:IntKind.i64.wrap ((l.count c+1:Nat):Int)=((l.count c+1:Nat):Int):=Ya .i64 (by show -9223372036854775808≤_; omega) (by show _≤9223372036854775807; omega)
   simp -implicitDefEqProofs (disch:=omega) only [go_sem,↓reduceIte,reduceCtorEq,rq,and_true,e3,w4,QhJ,hd,hput,Int.toNat_natCast,Nat.sub_zero]
   refine ⟨_,_,by rw [hlen],⟨rfl,rfl⟩,?_,?_,?_⟩
   ·refine XW fun u hu=>?_
    rcases List.mem_append.1 hu with hu | hu
    ·obtain ⟨w,_,rfl⟩:=List.mem_map.1 hu; simp [Qd]
    ·rw [List.mem_singleton] at hu; subst hu; simp [Qd]
   ·intro u hu
    rcases List.mem_append.1 hu with hu | hu
    ·obtain ⟨w,_,rfl⟩:=List.mem_map.1 hu; rfl
    ·rw [List.mem_singleton] at hu; subst hu; rfl
   ·rw [← hs,List.map_append]
    have:∀ (x:List (List UInt8)),WkL (x.map (fun w=>V.lst 1 (Qg w) true)++[V.lst 1 (Qg s) T]) (x.map QjC++[s].map QjC):=fun x=>by
     induction x with
     | nil=>exact .cons _ _ _ _ (.lst 1 1 _ _ T (.refl _) (.inr rfl)) .nil
     | cons y x ih=>exact .cons _ _ _ _ (.lst 1 1 _ _ true (.refl _) (.inr rfl)) ih
    exact this d
 ·obtain ⟨cells,t',rfl,rfl,hn,hcl,hw⟩:=hu
  refine .inr ⟨0,t,25,cells,zL _,rfl,hn,?_,?_⟩
  ·rw [Qez (sz:=1) hcl]; simp [Qd]
  ·rw [Qez (sz:=1) hcl]
   exact .lst 1 1 _ _ false hw (.inr rfl)
 ·exact ⟨_,hu.2,by simp [ZW,Qd],rfl⟩
end
section
attribute [local go_sem] lR Nat.mul_one zA QkJ QkI Qpq Qpp Qpo Qpn Qpm bytes_Split zqo_0 zqo_1 decide_true Qt
theorem Qs4 (hT:Qn Tryz.prog tab) (l:List UInt8) (T:Bool) (c:UInt8) (hl:l.length≤1000000):Am.Pure Tryz.prog G Qe7 [.lst 1 (Qg l) T,.lst 1 (Qg [c]) true] fun u=>u=ZW (splitB c l):=by
 have h:=Qo3 (G:=G) hT l T c hl
 intro t
 refine Xa 0 (zL _) (QM hT Qci (by simp [bytes_Split]) (Qx 1000 ?_))
 simp -implicitDefEqProofs (disch:=omega) only [go_sem,↓reduceIte,reduceCtorEq,rq]
 refine Qj hT QcO h (by simp [Qb,Qd]) 1000 ?_
 simp -implicitDefEqProofs (disch:=omega) only [go_sem,↓reduceIte,reduceCtorEq,rq,ZW]
def spB (b:UInt8):Int:=if isSp b=true then 1 else 0
def spT:List Int:=(List.range 256).map fun k=>spB (UInt8.ofNat k)
theorem QnK (b:UInt8):(spT.map (V.int .u8)).getD b.toNat .any=.int .u8 (spB b):=by
 have h:=b.toNat_lt
 simp [spT,List.getD_eq_getElem?_getD,List.getElem?_range h]
theorem QrQ (b:UInt8):spB b=0∨spB b=1:=by unfold spB; split <;> simp
def spI (b:Bool):Int:=if b=true then 1 else 0
theorem or_low:∀ a:Fin 128,∀ b:Fin 128,0≤orI .u8 ((a.val:Nat):Int) ((b.val:Nat):Int)∧orI .u8 ((a.val:Nat):Int) ((b.val:Nat):Int)<128:=by decide +kernel
theorem QAs {a b:Int} (ha:0≤a∧a<128) (hb:0≤b∧b<128):0≤orI .u8 a b∧orI .u8 a b<128:=by
 have:=or_low ⟨a.toNat,by omega⟩ ⟨b.toNat,by omega⟩
 simpa [Int.toNat_of_nonneg ha.1,Int.toNat_of_nonneg hb.1] using this
abbrev f0J (t0:Nat) (l:List UInt8) (T:Bool):Nat→Fr→H→Prop:=fun i fr σ=>∃ (n:Nat) (sp:Bool) (sb:Int),n+QcP sp (l.drop i)=QcP true l∧n≤i∧((∀ b∈l,b.toNat<128)→0≤sb∧sb<128)∧Qi fr 0=.lst 1 (Qg l) T∧Qi fr 3=.int .i64 (n:Int)∧Qi fr 4=.int .i64 (spI sp)∧Qi fr 5=.int .u8 sb∧Qi fr 6=.int .i64 (i:Int)∧σ=⟨t0,[]⟩
theorem Quy (hT:Qn Tryz.prog tab) (hG:G 0=some (Qdk .u8 spT)) {t0:Nat} {l:List UInt8} {T:Bool} (hl:l.length≤1000000) {E:AE→Fr→H→Prop} {i:Nat} (hi:i<l.length) {fr:Fr} {σ:H} (hJ:f0J t0 l T i fr σ) :
 W Tryz.prog G 115 0 wh fr σ (ZB (fun fr σ=>∃ fr' σ',Shift G 115 0 fr σ fr' σ'∧f0J t0 l T (i+1) fr' σ') E):=by
 obtain ⟨n,sp,sb,hn,hni,hsb,f0,f3,f4,f5,f6,rfl⟩:=hJ
 have e2:=YR hi (by omega)
 have hlt:(i:Int)<(l.length:Int):=by omega
 have hb:(Qg l).getD i .any=.int .u8 (l[i].toNat:Nat):=by simp [Qg,List.getD_eq_getElem?_getD,List.getElem?_eq_getElem hi]
 have hsl:spT.length=256:=rfl
 have hat:=QnK l[i]
 have hb256:=(l[i]).toNat_lt
 have hw0:IntKind.i64.wrap 0=0:=rfl
 have hw1:IntKind.i64.wrap 1=1:=rfl
 have key:∀ (q w:Int),spB l[i]=q→spI sp=w→W Tryz.prog G 115 0 wh [(0,.lst 1 (Qg l) T),(3,.int .i64 (n:Int)),(4,.int .i64 w),(5,.int .u8 sb),(6,.int .i64 (i:Int))] ⟨t0,[]⟩ (ZB (fun fr σ=>∃ fr' σ',Shift G 115 0 fr σ fr' σ'∧f0J t0 l T (i+1) fr' σ') E):=by
  intro q w hq hw
  rw [hq] at hat
  have hq2:q=0∨q=1:=hq▸QrQ _
  have hwq:IntKind.i64.wrap q=q:=by rcases hq2 with rfl | rfl <;> rfl
  refine Qx 1000 ?_
  simp -implicitDefEqProofs (disch:=omega) only [go_sem,↓reduceIte,reduceCtorEq,rq,rL,Qdk,Xu,lM,true_implies,and_true,hlt,hi,hb,hG,hsl,hat,hwq]
  have hx:Qzf IntKind.i64 w (xorI IntKind.i64 (if IntKind.i64.signed=true then -1 else IntKind.i64.max) q)=if sp=true∧isSp l[i]=false then 1 else 0:=by
   subst hq; subst hw
   unfold spB spI
   cases sp <;> cases isSp l[i] <;> decide
  have hdr:l.drop i=l[i]::l.drop (i+1):=List.drop_eq_getElem_cons hi
  rw [hdr,QcP] at hn
  refine ⟨_,_,Shift.refl _ _ _ _,n+(if sp=true∧isSp l[i]=false then 1 else 0),isSp l[i],_,by omega,by split <;> omega,fun h=>?_,rfl,?_,?_,rfl,?_,rfl⟩
  ·have h1:=hsb h
   have h2:=h l[i] (List.getElem_mem hi)
   exact QAs h1 ⟨by omega,by omega⟩
  ·show V.int IntKind.i64 _=_
   rw [hx]
   congr 1
   rw [show (n:Int)+(if sp=true∧isSp l[i]=false then 1 else 0)=((n+(if sp=true∧isSp l[i]=false then 1 else 0):Nat):Int) by split <;> omega]
   exact Ya .i64 (by show -9223372036854775808≤_; omega) (by show _≤9223372036854775807; split <;> omega)
  ·show V.int IntKind.i64 q=_
   rw [← hq]; rfl
  ·show V.int IntKind.i64 _=_
   rw [e2]
 exact QgA [(0,.lst 1 (Qg l) T),(3,.int .i64 (n:Int)),(4,.int .i64 (spI sp)),(5,.int .u8 sb),(6,.int .i64 (i:Int))] ⟨f0,f3,f4,f5,f6,trivial⟩ (key _ _ rfl rfl)
end
section
attribute [local go_sem] nFq lM lR Nat.mul_one zA and_true beq_self_eq_true bne_self_eq_false Xu Qnl Qnk Qnj Qni Qnh Qng Qnf Qne QkH QkG Qnd decide_false decide_true false_implies Qt not_false_eq_true QhJ Qdk true_and true_implies
abbrev fkJ (t0:Nat) (l:List UInt8) (T:Bool) (n na:Nat) (d:List (List UInt8)) (k:Nat):Nat→Fr→H→Prop:=fun m fr σ=>∃ i,i≤l.length∧m=l.length - i∧k≤i∧d++Qaf [] (l.drop i)=Qaf [] l∧Qi fr 0=.lst 1 (Qg l) T∧Qi fr 9=.sl 0 t0 0 1 n none∧Qi fr 10=.int .i64 (na:Int)∧Qi fr 12=.int .i64 (i:Int)∧σ=⟨t0+1,[some (.arr t0 25 (spC d (n - na)))]⟩
abbrev fkE (id:Nat) (t0:Nat) (l:List UInt8) (T:Bool) (n na:Nat) (d:List (List UInt8)) (k:Nat):AE→Fr→H→Prop:=fun e fr σ=>e=.ex id∧∃ i,i≤l.length∧k≤i∧d++Qaf [] (l.drop i)=Qaf [] l∧(∀ b,l[i]?=some b→isSp b=false)∧Qi fr 0=.lst 1 (Qg l) T∧Qi fr 9=.sl 0 t0 0 1 n none∧Qi fr 10=.int .i64 (na:Int)∧Qi fr 12=.int .i64 (i:Int)∧σ=⟨t0+1,[some (.arr t0 25 (spC d (n - na)))]⟩
variable {l:List UInt8}
theorem QyS {i:Nat} (hi:i<l.length) (h:isSp l[i]=true):Qaf [] (l.drop i)=Qaf [] (l.drop (i+1)):=by
 rw [List.drop_eq_getElem_cons hi,Qaf,if_pos h,if_pos rfl]
variable {σ:H} {fr:Fr} {d:List (List UInt8)} {T:Bool} {t0 n na k m:Nat}
theorem Qux (hT:Qn Tryz.prog tab) (hG:G 0=some (Qdk .u8 spT)) (hl:l.length≤1000000) (hJ:fkJ t0 l T n na d k m fr σ) :
 W Tryz.prog G 115 0 (.seq (zg Qnl [43,44,45,46,47,48,49,50,51,52,53,54] (zw 55 .skip (.exit 2))) (.block 3 (.reg Qnk [56,57]))) fr σ (ZB (fun fr σ=>∃ m' fr' σ',m'<m∧Shift G 115 0 fr σ fr' σ'∧fkJ t0 l T n na d k m' fr' σ') (fkE 2 t0 l T n na d k)):=by
 obtain ⟨i,hil,hm,hki,hd,f0,f9,f10,f12,rfl⟩:=hJ
 rcases Nat.lt_or_ge i l.length with hi | hi
 ·have e2:=YR hi (by omega)
  have hlt:(i:Int)<(l.length:Int):=by omega
  have hb:(Qg l).getD i .any=.int .u8 (l[i].toNat:Nat):=by simp [Qg,List.getD_eq_getElem?_getD,List.getElem?_eq_getElem hi]
  have hsl:spT.length=256:=rfl
  have hat:=QnK l[i]
  have hb256:=(l[i]).toNat_lt
  cases hs:isSp l[i] with
  | true =>
    rw [spB,hs,if_pos rfl] at hat
    have n1:¬ (1:Int)=0:=by decide
    refine Qh [(0,.lst 1 (Qg l) T),(9,.sl 0 t0 0 1 n none),(10,.int .i64 (na:Int)),(12,.int .i64 (i:Int))] ⟨f0,f9,f10,f12,trivial⟩  1000 ?_
    simp -implicitDefEqProofs (disch:=omega) only [go_sem,↓reduceIte,reduceCtorEq,rA,rq,rL,hlt,hi,hb,hG,hsl,hat,n1]
    refine ⟨l.length - (i+1),_,_,by omega,Shift.refl _ _ _ _,i+1,by omega,rfl,by omega,by rw [← QyS hi hs]; exact hd,rfl,rfl,rfl,by rw [e2]; rfl,rfl⟩
  | false =>
    rw [spB,hs,if_neg (by simp)] at hat
    refine Qh [(0,.lst 1 (Qg l) T),(9,.sl 0 t0 0 1 n none),(10,.int .i64 (na:Int)),(12,.int .i64 (i:Int))] ⟨f0,f9,f10,f12,trivial⟩  1000 ?_
    simp -implicitDefEqProofs (disch:=omega) only [go_sem,↓reduceIte,reduceCtorEq,rA,rq,rL,hlt,hi,hb,hG,hsl,hat]
    refine ⟨rfl,i,hil,hki,hd,fun b hb=>?_,rfl,rfl,rfl,rfl,rfl⟩
    rw [List.getElem?_eq_getElem hi] at hb; cases hb; exact hs
 ·have hlt:¬ (i:Int)<(l.length:Int):=by omega
  refine Qh [(0,.lst 1 (Qg l) T),(9,.sl 0 t0 0 1 n none),(10,.int .i64 (na:Int)),(12,.int .i64 (i:Int))] ⟨f0,f9,f10,f12,trivial⟩  1000 ?_
  simp -implicitDefEqProofs (disch:=omega) only [go_sem,↓reduceIte,reduceCtorEq,rq,hlt]
  refine ⟨rfl,i,hil,hki,hd,fun b hb=>?_,rfl,rfl,rfl,rfl,rfl⟩
  have:=(List.getElem?_eq_some_iff.1 hb).1
  omega
theorem Quv (hT:Qn Tryz.prog tab) (hG:G 0=some (Qdk .u8 spT)) (hl:l.length≤1000000) (hJ:fkJ t0 l T n na d k m fr σ) :
 W Tryz.prog G 115 0 (.seq (zg QkH [84,85,86,87,88,89,90,91,92,93,94,95] (zw 96 .skip (.exit 6))) (.block 7 (.reg QkG [97,98]))) fr σ (ZB (fun fr σ=>∃ m' fr' σ',m'<m∧Shift G 115 0 fr σ fr' σ'∧fkJ t0 l T n na d k m' fr' σ') (fkE 6 t0 l T n na d k)):=by
 obtain ⟨i,hil,hm,hki,hd,f0,f9,f10,f12,rfl⟩:=hJ
 rcases Nat.lt_or_ge i l.length with hi | hi
 ·have e2:=YR hi (by omega)
  have hlt:(i:Int)<(l.length:Int):=by omega
  have hb:(Qg l).getD i .any=.int .u8 (l[i].toNat:Nat):=by simp [Qg,List.getD_eq_getElem?_getD,List.getElem?_eq_getElem hi]
  have hsl:spT.length=256:=rfl
  have hat:=QnK l[i]
  have hb256:=(l[i]).toNat_lt
  cases hs:isSp l[i] with
  | true =>
    rw [spB,hs,if_pos rfl] at hat
    have n1:¬ (1:Int)=0:=by decide
    refine Qh [(0,.lst 1 (Qg l) T),(9,.sl 0 t0 0 1 n none),(10,.int .i64 (na:Int)),(12,.int .i64 (i:Int))] ⟨f0,f9,f10,f12,trivial⟩  1000 ?_
    simp -implicitDefEqProofs (disch:=omega) only [go_sem,↓reduceIte,reduceCtorEq,rA,rq,rL,hlt,hi,hb,hG,hsl,hat,n1]
    refine ⟨l.length - (i+1),_,_,by omega,Shift.refl _ _ _ _,i+1,by omega,rfl,by omega,by rw [← QyS hi hs]; exact hd,rfl,rfl,rfl,by rw [e2]; rfl,rfl⟩
  | false =>
    rw [spB,hs,if_neg (by simp)] at hat
    refine Qh [(0,.lst 1 (Qg l) T),(9,.sl 0 t0 0 1 n none),(10,.int .i64 (na:Int)),(12,.int .i64 (i:Int))] ⟨f0,f9,f10,f12,trivial⟩  1000 ?_
    simp -implicitDefEqProofs (disch:=omega) only [go_sem,↓reduceIte,reduceCtorEq,rA,rq,rL,hlt,hi,hb,hG,hsl,hat]
    refine ⟨rfl,i,hil,hki,hd,fun b hb=>?_,rfl,rfl,rfl,rfl,rfl⟩
    rw [List.getElem?_eq_getElem hi] at hb; cases hb; exact hs
 ·have hlt:¬ (i:Int)<(l.length:Int):=by omega
  refine Qh [(0,.lst 1 (Qg l) T),(9,.sl 0 t0 0 1 n none),(10,.int .i64 (na:Int)),(12,.int .i64 (i:Int))] ⟨f0,f9,f10,f12,trivial⟩  1000 ?_
  simp -implicitDefEqProofs (disch:=omega) only [go_sem,↓reduceIte,reduceCtorEq,rq,hlt]
  refine ⟨rfl,i,hil,hki,hd,fun b hb=>?_,rfl,rfl,rfl,rfl,rfl⟩
  have:=(List.getElem?_eq_some_iff.1 hb).1
  omega
abbrev f2J (t0:Nat) (l:List UInt8) (T:Bool) (n:Nat):Nat→Fr→H→Prop:=fun m fr σ=>∃ (i fs na:Nat) (d:List (List UInt8)),i≤l.length∧m=l.length - i∧fs≤i∧d.length=na∧d++Qaf ((l.take i).drop fs) (l.drop i)=Qaf [] l∧(fs=i→∀ b,l[i]?=some b→isSp b=false)∧Qi fr 0=.lst 1 (Qg l) T∧Qi fr 9=.sl 0 t0 0 1 n none∧Qi fr 10=.int .i64 (na:Int)∧Qi fr 11=.int .i64 (fs:Int)∧Qi fr 12=.int .i64 (i:Int)∧σ=⟨t0+1,[some (.arr t0 25 (spC d (n - na)))]⟩
abbrev f2E (t0:Nat) (l:List UInt8) (T:Bool) (n:Nat):AE→Fr→H→Prop:=fun e fr σ=>e=.ex 4∧∃ (i fs na:Nat) (d:List (List UInt8)),i=l.length∧fs≤i∧d.length=na∧d++Qaf ((l.take i).drop fs) (l.drop i)=Qaf [] l∧Qi fr 0=.lst 1 (Qg l) T∧Qi fr 9=.sl 0 t0 0 1 n none∧Qi fr 10=.int .i64 (na:Int)∧Qi fr 11=.int .i64 (fs:Int)∧Qi fr 12=.int .i64 (i:Int)∧σ=⟨t0+1,[some (.arr t0 25 (spC d (n - na)))]⟩
theorem Quw (hT:Qn Tryz.prog tab) (hG:G 0=some (Qdk .u8 spT)) (hn:n=(Qaf [] l).length) (hl:l.length≤1000000) (hJ:f2J t0 l T n m fr σ) :
 W Tryz.prog G 115 0 (.seq (zg Qnj [59,60,61] (zw 62 .skip (.exit 4))) (.block 5 (.seq (zg Qni [63,64,65,66,67,68] (zw 69 (zg Qnh [70,71] (.exit 5)) .skip)) (zg Qng [72,73,74,75,76,77,78,79] (zg Qnf [80,81] (zg Qne [82,83] (.seq (.block 6 (.loop (.seq (zg QkH [84,85,86,87,88,89,90,91,92,93,94,95] (zw 96 .skip (.exit 6))) (.block 7 (.reg QkG [97,98]))))) (.reg Qnd [99])))))))) fr σ (ZB (fun fr σ=>∃ m' fr' σ',m'<m∧Shift G 115 0 fr σ fr' σ'∧f2J t0 l T n m' fr' σ') (f2E t0 l T n)):=by
 obtain ⟨i,fs,na,d,hil,hm,hfs,hdl,hd,hsp,f0,f9,f10,f11,f12,rfl⟩:=hJ
 rcases Nat.lt_or_ge i l.length with hi | hi
 ·have e2:=YR hi (by omega)
  have hlt:(i:Int)<(l.length:Int):=by omega
  have hb:(Qg l).getD i .any=.int .u8 (l[i].toNat:Nat):=by simp [Qg,List.getD_eq_getElem?_getD,List.getElem?_eq_getElem hi]
  have hsl:spT.length=256:=rfl
  have hat:=QnK l[i]
  have hb256:=(l[i]).toNat_lt
  have hdr:l.drop i=l[i]::l.drop (i+1):=List.drop_eq_getElem_cons hi
  have htk:(l.take (i+1)).drop fs=(l.take i).drop fs++[l[i]]:=by
   rw [List.take_add_one,List.getElem?_eq_getElem hi,List.drop_append,List.length_take]
   simp [show fs - min i l.length=0 by omega]
  rw [hdr,Qaf] at hd
  cases hs:isSp l[i] with
  | true =>
    rw [spB,hs,if_pos rfl] at hat
    rw [if_pos hs] at hd
    have hne:fs<i:=by
     rcases Nat.lt_or_ge fs i with h | h
     ·exact h
     ·have:=hsp (by omega) l[i] (List.getElem?_eq_getElem hi)
      rw [hs] at this; cases this
    have hcur:(l.take i).drop fs≠[]:=fun h=>by
     have:=congrArg List.length h
     simp at this; omega
    rw [if_neg hcur] at hd
    have hle:=congrArg List.length hd
    rw [lAq,lC,← hn] at hle
    obtain ⟨k,hk⟩:∃ k,n - na=k+1:=⟨n - na - 1,by omega⟩
    have n1:¬ (1:Int)=0:=by decide
    have hx:V.lst 1 (List.take (i - fs) (List.drop fs (Qg l))) true=V.lst 1 (Qg ((l.take i).drop fs)) true:=by
     rw [ZV,YM,List.drop_take]
    have hput:=QjQ hdl ((l.take i).drop fs) k _ hx
    have hna:na+1≤d.length+(k+1):=by omega
    have e3:IntKind.i64.wrap ((na:Int)+1)=((na+1:Nat):Int):=YR (n:=n) (by omega) (by
     have h2:=QsE l
     omega)
    rw [hk]
    refine Qh [(0,.lst 1 (Qg l) T),(9,.sl 0 t0 0 1 n none),(10,.int .i64 (na:Int)),(11,.int .i64 (fs:Int)),(12,.int .i64 (i:Int))] ⟨f0,f9,f10,f11,f12,trivial⟩  1000 ?_
    simp -implicitDefEqProofs (disch:=omega) only [go_sem,↓reduceIte,reduceCtorEq,rq,rL,hlt,hi,hb,hG,hsl,hat,n1,hfs,hput,e3,e2]
    refine QX (fkJ t0 l T n (na+1) (d++[(l.take i).drop fs]) (i+1)) (fkE 6 t0 l T n (na+1) (d++[(l.take i).drop fs]) (i+1)) (m0:=l.length - (i+1)) ⟨i+1,by omega,rfl,lR _,?_,rfl,rfl,rfl,rfl,?_⟩ (fun m fr σ hJ=>Quv hT hG hl hJ) (fun e fr σ hE=>?_)
    ·rw [aA]; exact hd
    ·rw [show n - (na+1)=k by omega]
    ·obtain ⟨rfl,j,hj,hij,hdj,hspj,g0,g9,g10,g12,rfl⟩:=hE
     refine QO [(0,.lst 1 (Qg l) T),(9,.sl 0 t0 0 1 n none),(10,.int .i64 ((na+1:Nat):Int)),(12,.int .i64 (j:Int))] ⟨g0,g9,g10,g12,trivial⟩ 1000 ?_
     simp -implicitDefEqProofs (disch:=omega) only [go_sem,↓reduceIte,reduceCtorEq,rq]
     refine ⟨l.length - j,_,_,by omega,Shift.refl _ _ _ _,j,j,na+1,d++[(l.take i).drop fs],hj,rfl,lR _,by simp [hdl],?_,fun _=>hspj,rfl,rfl,rfl,rfl,rfl,rfl⟩
     rw [show (l.take j).drop j=[] by simp]; exact hdj
  | false =>
    rw [spB,hs,if_neg (by simp)] at hat
    rw [if_neg (by simp [hs]),← htk] at hd
    refine Qh [(0,.lst 1 (Qg l) T),(9,.sl 0 t0 0 1 n none),(10,.int .i64 (na:Int)),(11,.int .i64 (fs:Int)),(12,.int .i64 (i:Int))] ⟨f0,f9,f10,f11,f12,trivial⟩  1000 ?_
    simp -implicitDefEqProofs (disch:=omega) only [go_sem,↓reduceIte,reduceCtorEq,rq,rL,hlt,hi,hb,hG,hsl,hat]
    refine ⟨l.length - (i+1),_,_,by omega,Shift.refl _ _ _ _,i+1,fs,na,d,by omega,rfl,by omega,hdl,hd,fun h=>by omega,rfl,rfl,rfl,rfl,by rw [e2]; rfl,rfl⟩
 ·have hlt:¬ (i:Int)<(l.length:Int):=by omega
  refine Qh [(0,.lst 1 (Qg l) T),(9,.sl 0 t0 0 1 n none),(10,.int .i64 (na:Int)),(11,.int .i64 (fs:Int)),(12,.int .i64 (i:Int))] ⟨f0,f9,f10,f11,f12,trivial⟩  1000 ?_
  simp -implicitDefEqProofs (disch:=omega) only [go_sem,↓reduceIte,reduceCtorEq,rq,hlt]
  exact ⟨rfl,i,fs,na,d,by omega,hfs,hdl,hd,rfl,rfl,rfl,rfl,rfl,rfl⟩
end
end Go.Proofs.YtingdebioipemaaGreatDoor
