/- What bytes.IndexByte and bytes.Count (of one byte) answer, at this program. -/
import Derived.Test.YtingdebioipemaaGreatDoorProg
import Derived.Shelf.Bytes.IndexByte
import Derived.Shelf.Bytes.SlCountOne
import Derived.WalkKit
import Derived.KernelRfl
import Derived.Test.YtingdebioipemaaGreatDoorAmD
import Derived.Lib.Bytealg
import Derived.Lib.IndexLaws
import Derived.Lib.AtoiAll
import Derived.Test.YtingdebioipemaaGreatDoorTabB
open Nat renaming reduceEqDiff → rq, reduceAdd → rA, reduceLeDiff → rL, reduceLT → rT, zero_add → zA, le_refl → lR, zero_le → zL, add_zero → aZ
open List renaming length_cons → lC, length_nil → lN, take_succ_cons → tS, length_append → lAq, nil_append → nAq, cons_append → cAq, append_assoc → aA, take_nil → tN, take_zero → tZ, length_map → lM
open Bool renaming not_false → nFq, not_true → nT
namespace Go.Proofs.YtingdebioipemaaGreatDoor
open Go Go.RowKit Go.Lib
set_option maxRecDepth 100000
set_option maxHeartbeats 1000000
theorem QAa (b o n c:Nat) (xs:List Int) (cv:Int) (w:World) (hx:xs.length=n) (hc:∀ i,i<n→w.cell? ⟨b,o+i,none⟩=some (.int .u8 (xs.getD i 0))) :
 Calls Tryz.prog 116 #[.slice (some ⟨b,o,none⟩) n c,.int .u8 cv] w fun e w'=>e=.returned (.int .i64 (Lib.indexByte (Lib.bytesOf xs) cv.toNat.toUInt8))∧w'=w:=by
 go_enter Tryz.func116,Tryz.ntmps116
 go_wp2
 rw [run_callFunc_extern Tryz.func137 (by kernel_rfl) (by kernel_rfl) (by kernel_rfl) (e:=Extern.BytealgIndexByte.indexByte) (by kernel_rfl),Lib.run_indexByteSlice w b o n c xs hx hc cv]
 simp only [Result.andThen]
 rw [Oper.upon_value]
 go_wp2
 go_ret
 exact ⟨rfl,rfl⟩
theorem QrD (a:Addr) (n c b2 o2 d:Nat) (xs:List Int) (cv:Int) (w:World) (hx:xs.length=n) (hc:∀ i,i<n→w.cell? (a.add i)=some (.int .u8 (xs.getD i 0))) (hc2:w.cell? ⟨b2,o2,none⟩=some (.int .u8 cv)) :
 Calls Tryz.prog 88 #[.slice (some a) n c,.slice (some ⟨b2,o2,none⟩) 1 d] w fun e w'=>e=.returned (.int .i64 (Lib.countByte (Lib.bytesOf xs) cv.toNat.toUInt8))∧w'=w:=by
 go_enter Tryz.func88,Tryz.ntmps88
 go_wp2
 rw [run_callFunc_extern Tryz.func115 (by kernel_rfl) (by kernel_rfl) (by kernel_rfl) (e:=Extern.BytealgCount.count) (by kernel_rfl),Lib.run_countAt w a n c xs hx hc cv]
 simp only [Result.andThen]
 rw [Oper.upon_value]
 go_wp2
 go_ret
 exact ⟨rfl,rfl⟩
theorem Qmh (cap b2 o2 d:Nat) (cv:Int) (w:World) (hc2:w.cell? ⟨b2,o2,none⟩=some (.int .u8 cv)) :
 Calls Tryz.prog 88 #[.slice none 0 cap,.slice (some ⟨b2,o2,none⟩) 1 d] w fun e w'=>e=.returned (.int .i64 0)∧w'=w:=by
 go_enter Tryz.func88,Tryz.ntmps88
 go_wp2
 rw [run_callFunc_extern Tryz.func115 (by kernel_rfl) (by kernel_rfl) (by kernel_rfl) (e:=Extern.BytealgCount.count) (by kernel_rfl),Lib.run_countNil w 0 cap cv]
 simp only [Result.andThen]
 rw [Oper.upon_value]
 go_wp2
 go_ret
 exact ⟨rfl,rfl⟩
end Go.Proofs.YtingdebioipemaaGreatDoor
namespace Go.Ct
open Go
set_option maxHeartbeats 1000000
def splitB (c:UInt8):List UInt8→List (List UInt8)
 | []=>[[]]
 | b::r=>if b=c then []::splitB c r else match splitB c r with
   | []=>[[b]]
   | h::t=>(b::h)::t
theorem QhH (c:UInt8):∀ l,splitB c l≠[]
 | []=>by simp [splitB]
 | b::r=>by
   unfold splitB
   split
   ·simp
   ·split <;> simp
theorem QeD {c:UInt8}:∀ {x:List UInt8},(∀ b∈x,b≠c)→splitB c x=[x]
 | [],_=>rfl
 | b::x,h=>by
   rw [splitB,if_neg (h b (by simp)),QeD (fun b hb=>h b (by simp [hb]))]
theorem ZQ {c:UInt8}:∀ {x r:List UInt8},(∀ b∈x,b≠c)→splitB c (x++c::r)=x::splitB c r
 | [],r,_=>by rw [nAq,splitB,if_pos rfl]
 | b::x,r,h=>by
   rw [cAq,splitB,if_neg (h b (by simp)),ZQ (fun b hb=>h b (by simp [hb]))]
theorem QfO (c:UInt8):∀ l,(splitB c l).length=l.count c+1
 | []=>rfl
 | b::r=>by
   have ih:=QfO c r
   unfold splitB
   split
   ·rename_i h; subst h; simp [ih]
   ·rename_i h
    rw [List.count_cons_of_ne (by simpa using h)]
    split
    ·rename_i e; exact absurd e (QhH c r)
    ·rename_i e; rw [e] at ih; simpa using ih
theorem QrP {c:UInt8} {l:List UInt8} {m:Nat} (h:l[m]?=some c) (hf:∀ k,k<m→l[k]?≠some c):splitB c l=l.take m::splitB c (l.drop (m+1))∧l.count c=(l.drop (m+1)).count c+1:=by
 have hm:=(List.getElem?_eq_some_iff.1 h).1
 have e:l=l.take m++c::l.drop (m+1):=by
  have h2:=(List.getElem?_eq_some_iff.1 h).2
  conv=>lhs; rw [← List.take_append_drop m l,List.drop_eq_getElem_cons hm,h2]
 have hn:∀ b∈l.take m,b≠c:=fun b hb hbc=>by
  obtain ⟨k,hk,e2⟩:=List.mem_iff_getElem.1 hb
  rw [List.length_take] at hk
  rw [List.getElem_take] at e2
  exact hf k (by omega) (by rw [List.getElem?_eq_getElem (by omega),e2,hbc])
 constructor
 ·conv=>lhs; rw [e]
  exact ZQ hn
 ·conv=>lhs; rw [e]
  rw [List.count_append,List.count_cons_self,List.count_eq_zero.2 (fun hc=>hn c hc rfl)]
  omega
def isSp (b:UInt8):Bool:=b==9 || b==10 || b==11 || b==12 || b==13 || b==32
def Qaf (cur:List UInt8):List UInt8→List (List UInt8)
 | []=>if cur=[] then [] else [cur]
 | b::r=>if isSp b=true then (if cur=[] then Qaf [] r else cur::Qaf [] r) else Qaf (cur++[b]) r
def QcP (sp:Bool):List UInt8→Nat
 | []=>0
 | b::r=>(if sp=true∧isSp b=false then 1 else 0)+QcP (isSp b) r
theorem Qhd:∀ (l cur:List UInt8),(Qaf cur l).length=QcP (decide (cur=[])) l+if cur=[] then 0 else 1
 | [],cur=>by unfold Qaf QcP; split <;> simp_all
 | b::r,cur=>by
   unfold Qaf QcP
   cases hb:isSp b with
   | true =>
     rw [if_pos rfl]
     have ih:=Qhd r []
     simp at ih
     split
     ·rename_i h; simp [h,ih]
     ·rename_i h; simp [h,ih]
   | false =>
     rw [if_neg (by simp)]
     have ih:=Qhd r (cur++[b])
     simp at ih
     rw [ih]
     by_cases h:cur=[]
     ·simp [h]; omega
     ·simp [h]
theorem QkY:∀ (sp:Bool) (l:List UInt8),QcP sp l≤l.length
 | _,[]=>lR _
 | sp,b::r=>by
   have ih:=QkY (isSp b) r
   unfold QcP
   split <;> simp <;> omega
theorem QsE (l:List UInt8):(Qaf [] l).length≤l.length:=by
 have h:=Qhd l []
 have h2:=QkY true l
 simp at h
 omega
theorem Qlk:∀ {x:List UInt8} (cur:List UInt8) {r:List UInt8},(∀ b∈x,isSp b=false)→Qaf cur (x++r)=Qaf (cur++x) r
 | [],cur,r,_=>by simp
 | b::x,cur,r,h=>by
   rw [cAq,Qaf,if_neg (by simp [h b (by simp)]),Qlk (cur++[b]) (fun b hb=>h b (by simp [hb]))]
   simp
variable {b:UInt8}
theorem QsD {x r:List UInt8} (hx:x≠[]) (h:∀ b∈x,isSp b=false) (hb:isSp b=true):Qaf [] (x++b::r)=x::Qaf [] r:=by
 rw [Qlk [] h,nAq,Qaf,if_pos hb,if_neg hx]
theorem QdZ:∀ (l cur:List UInt8),∀ w∈Qaf cur l,w.length≤cur.length+l.length
 | [],cur,w,h=>by
   unfold Qaf at h
   split at h
   ·simp at h
   ·simp at h; subst h; simp
 | b::r,cur,w,h=>by
   unfold Qaf at h
   split at h
   ·split at h
    ·have:=QdZ r [] w h; simp at this ⊢; omega
    ·rcases List.mem_cons.1 h with rfl | h
     ·simp
     ·have:=QdZ r [] w h; simp at this ⊢; omega
   ·have:=QdZ r _ w h; simp at this ⊢; omega
def QmB (b:UInt8):Bool:=48≤b.toNat&&b.toNat≤57
theorem ZU:∀ u:Nat,∀ b∈Lib.decDigits u,QmB b=true:=by
 intro u
 induction u using Nat.strongRecOn with
 | ind u ih =>
   intro b hb
   rw [Lib.decDigits] at hb
   have key:∀ d:Nat,d<10→QmB (UInt8.ofNat (48+d))=true:=by decide
   split at hb
   ·rename_i h
    rw [List.mem_singleton] at hb; subst hb
    exact key u h
   ·rename_i h
    rcases List.mem_append.1 hb with hb | hb
    ·exact ih (u / 10) (by omega) b hb
    ·rw [List.mem_singleton] at hb; subst hb
     exact key _ (by omega)
theorem Qlu (u:Nat):Lib.decDigits u≠[]:=by
 rw [Lib.decDigits]
 split <;> simp
theorem Qe4:∀ (x y:List UInt8) (a u:Nat),Lib.parseUint10 a x=.ok u→Lib.parseUint10 a (x++y)=Lib.parseUint10 u y
 | [],y,a,u,h=>by simp only [Lib.parseUint10] at h; injection h with h; subst h; rfl
 | c::x,y,a,u,h=>by
   rw [cAq]
   simp only [Lib.parseUint10] at h ⊢
   split at h <;> rename_i h1
   ·rw [if_pos h1]
    split at h <;> rename_i h2
    ·cases h
    ·rw [if_neg h2]
     split at h <;> rename_i h3
     ·cases h
     ·rw [if_neg h3]
      exact Qe4 x y _ u h
   ·cases h
theorem QhN:∀ u:Nat,u<9223372036854775808→Lib.parseUint10 0 (Lib.decDigits u)=.ok u:=by
 intro u
 induction u using Nat.strongRecOn with
 | ind u ih =>
   intro hu
   have key:∀ d:Nat,d<10→(UInt8.ofNat (48+d)).toNat=48+d:=by decide
   have one:∀ a d:Nat,d<10→a<922337203685477581→Lib.parseUint10 a [UInt8.ofNat (48+d)]=.ok (a * 10+d):=fun a d hd ha=>by
    simp only [Lib.parseUint10,key d hd]
    rw [if_pos (by omega),if_neg (by omega),if_neg (by omega)]
    congr 1; omega
   rw [Lib.decDigits]
   split
   ·rename_i h
    rw [one 0 u h (by omega)]; simp
   ·rename_i h
    rw [Qe4 _ _ 0 _ (ih (u / 10) (by omega) (by omega)),one _ _ (by omega) (by omega)]
    congr 1; omega
theorem Qta {n:Int} (h:-9223372036854775807≤n∧n≤9223372036854775807):Lib.atoiAll (Lib.itoa n)=.ok n:=by
 unfold Lib.itoa
 split
 ·rename_i hn
  have hp:=QhN n.natAbs (by omega)
  have hm:Lib.parseMag (Lib.decDigits n.natAbs)=.ok n.natAbs:=by rw [Lib.parseMag,if_neg (Qlu _),hp]
  simp only [Lib.atoiAll]
  rw [if_pos (by decide),hm]
  simp only
  rw [if_neg (by simp),if_neg (by simp; omega),if_pos (by decide)]
  congr 1; omega
 ·rename_i hn
  have hp:=QhN n.toNat (by omega)
  have hm:Lib.parseMag (Lib.decDigits n.toNat)=.ok n.toNat:=by rw [Lib.parseMag,if_neg (Qlu _),hp]
  obtain ⟨c,r,e⟩:∃ c r,Lib.decDigits n.toNat=c::r:=List.exists_cons_of_ne_nil (Qlu _)
  have hc:=ZU n.toNat c (by rw [e]; simp)
  simp only [QmB,Bool.and_eq_true,decide_eq_true_eq] at hc
  rw [e] at hm ⊢
  simp only [Lib.atoiAll]
  rw [if_neg (by omega),hm]
  simp only
  rw [if_neg (by omega),if_neg (by omega),if_neg (by omega)]
  congr 1; omega
theorem QoO (n:Int):∀ b∈Lib.itoa n,b=45∨QmB b=true:=fun b hb=>by
 unfold Lib.itoa at hb
 split at hb
 ·rcases List.mem_cons.1 hb with h | h
  ·exact .inl h
  ·exact .inr (ZU _ b h)
 ·exact .inr (ZU _ b hb)
theorem QAK (n:Int):Lib.itoa n≠[]:=by
 unfold Lib.itoa
 split
 ·simp
 ·exact Qlu _
theorem Qsg (h:b=45∨QmB b=true):isSp b=false∧b≠10∧b≠32∧b.toNat<128:=by
 rcases h with rfl | h
 ·decide
 ·simp only [QmB,Bool.and_eq_true,decide_eq_true_eq] at h
  have e:∀ k:UInt8,k.toNat<48→b≠k:=fun k hk e=>by subst e; omega
  refine ⟨?_,e 10 (by decide),e 32 (by decide),by omega⟩
  simp [isSp,e 9 (by decide),e 10 (by decide),e 11 (by decide),e 12 (by decide),e 13 (by decide),e 32 (by decide)]
end Go.Ct
namespace Go.Cl
open Go Go.Am
set_option maxRecDepth 100000
set_option maxHeartbeats 1000000
def neg (n:Int):Int:=if n=-9223372036854775808 then n else -n
inductive UP (F:List (List Int)):Int→Prop
 | mk (c:List Int) (n:Int):c∈F→n∈c→(∀ m∈c,m≠n→UP F (-m))→UP F n
def Confl (F:List (List Int)):Prop:=∃ c∈F,∀ m∈c,UP F (-m)
variable {n v:Int} {F:List (List Int)}
theorem UP.mono {G:List (List Int)} (h:∀ c∈F,c∈G) (u:UP F n):UP G n:=by
 induction u with
 | mk c n hc hn _ ih=>exact .mk c n (h c hc) hn ih
theorem Confl.mono {F G:List (List Int)} (h:∀ c∈F,c∈G):Confl F→Confl G:=fun ⟨c,hc,hm⟩=>⟨c,h c hc,fun m x=>(hm m x).mono h⟩
theorem UP.same {G:List (List Int)} (h:∀ c∈F,∃ d∈G,∀ m,m∈d↔m∈c) (u:UP F n):UP G n:=by
 induction u with
 | mk c n hc hn _ ih =>
   obtain ⟨d,hd,e⟩:=h c hc
   exact .mk d n hd ((e n).2 hn) fun m hm hne=>ih m ((e m).1 hm) hne
theorem Confl.same {F G:List (List Int)} (h:∀ c∈F,∃ d∈G,∀ m,m∈d↔m∈c):Confl F→Confl G:=fun ⟨c,hc,hm⟩=>by
 obtain ⟨d,hd,e⟩:=h c hc
 exact ⟨d,hd,fun m x=>(hm m ((e m).1 x)).same h⟩
theorem UP.in (u:UP F n):∃ c∈F,n∈c:=by
 cases u with
 | mk c _ hc hn _=>exact ⟨c,hc,hn⟩
structure Closed (F:List (List Int)) (S:Int→Prop):Prop where
 cons:∀ n,S n→¬ S (-n)
 clause:∀ c∈F,(∃ n∈c,S n)∨∃ n∈c,∃ m∈c,n≠m∧¬ S (-n)∧¬ S (-m)
theorem Closed.up {S:Int→Prop} (h:Closed F S) (u:UP F n):S n:=by
 induction u with
 | mk c n hc hn _ ih =>
   rcases h.clause c hc with ⟨m,hm,hs⟩ | ⟨a,ha,b,hb,hne,sa,sb⟩
   ·by_cases e:m=n
    ·exact e▸hs
    ·exact absurd (ih m hm e) (h.cons m hs)
   ·by_cases e:a=n
    ·exact absurd (ih b hb fun x=>hne (e.trans x.symm)) sb
    ·exact absurd (ih a ha e) sa
theorem Closed.no {S:Int→Prop} (h:Closed F S):¬ Confl F:=fun ⟨c,hc,hm⟩=>by
 rcases h.clause c hc with ⟨m,hm',hs⟩ | ⟨a,ha,b,hb,hne,sa,sb⟩
 ·exact h.cons m hs (h.up (hm m hm'))
 ·exact sa (h.up (hm a ha))
def ZA (L:List Int) (c:List Int):List Int:=c.filter fun n=>!decide (-n∈L)
def assign (F:List (List Int)) (L:List Int):List (List Int):=(F.filter fun c=>!c.any fun n=>decide (n∈L)).map (ZA L)
def QAc (L:List Int):List (List Int):=L.map fun n=>[n]
def Sat (S:Int→Prop) (c:List Int):Prop:=∃ n∈c,S n
theorem UP.true {S:Int→Prop} (hS:∀ n,S n→¬ S (-n)) (hF:∀ c∈F,Sat S c) (u:UP F n):S n:=by
 induction u with
 | mk c n hc hn _ ih =>
   obtain ⟨m,hm,h⟩:=hF c hc
   by_cases e:m=n
   ·exact e▸h
   ·exact absurd (ih m hm e) (hS m h)
theorem Confl.none {S:Int→Prop} (hS:∀ n,S n→¬ S (-n)) (hF:∀ c∈F,Sat S c):¬ Confl F:=fun ⟨c,hc,hm⟩=>by
 obtain ⟨m,hm',h⟩:=hF c hc
 exact hS m h ((hm m hm').true hS hF)
def av (n:Int):Int:=if n<0 then -n else n
abbrev Srt (l:List Int):Prop:=l.Pairwise fun a b=>av a<av b
theorem Qmm:∀ {l m:List Int},Srt l→Srt m→(∀ n,n∈l↔n∈m)→l=m
 | [],[],_,_,_=>rfl
 | [],b::m,_,_,h=>absurd ((h b).2 (by simp)) (by simp)
 | a::l,[],_,_,h=>absurd ((h a).1 (by simp)) (by simp)
 | a::l,b::m,hl,hm,h=>by
   rw [Srt,List.pairwise_cons] at hl hm
   have e:a=b:=by
    have h1:=(h a).1 (by simp)
    have h2:=(h b).2 (by simp)
    simp only [List.mem_cons] at h1 h2
    rcases h1 with h1 | h1
    ·exact h1
    ·rcases h2 with h2 | h2
     ·exact h2.symm
     ·have:=hl.1 b h2; have:=hm.1 a h1; omega
   subst e
   congr 1
   refine Qmm hl.2 hm.2 fun n=>?_
   have hn:=h n
   simp only [List.mem_cons] at hn
   refine ⟨fun x=>(hn.1 (.inr x)).resolve_left fun e=>?_,fun x=>(hn.2 (.inr x)).resolve_left fun e=>?_⟩
   ·subst e; have:=hl.1 _ x; omega
   ·subst e; have:=hm.1 _ x; omega
def ins (n:Int):List Int→List Int
 | []=>[n]
 | a::l=>if av n<av a then n::a::l else a::ins n l
def Qbb:List Int→List Int
 | []=>[]
 | n::l=>ins n (Qbb l)
theorem Qmx {n m:Int}:∀ {l:List Int},m∈ins n l↔m=n∨m∈l
 | []=>by simp [ins]
 | a::l=>by
   unfold ins
   split
   ·simp
   ·simp only [List.mem_cons,Qmx (l:=l)]
    exact ⟨fun h=>h.elim (fun x=>.inr (.inl x)) fun x=>x.elim .inl fun x=>.inr (.inr x),fun h=>h.elim (fun x=>.inr (.inl x)) fun x=>x.elim .inl fun x=>.inr (.inr x)⟩
theorem Qdv {m:Int}:∀ {l:List Int},m∈Qbb l↔m∈l
 | []=>by simp [Qbb]
 | a::l=>by simp [Qbb,Qmx,Qdv (l:=l)]
theorem QrN {n:Int}:∀ {l:List Int},Srt l→(∀ m∈l,av m≠av n)→Srt (ins n l)
 | [],_,_=>by simp [ins,Srt]
 | a::l,h,hn=>by
   have h':=h
   rw [Srt,List.pairwise_cons] at h
   unfold ins
   split
   ·rename_i hlt
    rw [Srt,List.pairwise_cons]
    refine ⟨fun b hb=>?_,h'⟩
    simp only [List.mem_cons] at hb
    rcases hb with rfl | hb
    ·exact hlt
    ·have:=h.1 b hb; omega
   ·rename_i hlt
    have:=hn a (by simp)
    rw [Srt,List.pairwise_cons]
    refine ⟨fun b hb=>?_,QrN h.2 fun m hm=>hn m (by simp [hm])⟩
    rcases Qmx.1 hb with rfl | hb
    ·omega
    ·exact h.1 b hb
def Once (l:List Int):Prop:=l.Pairwise fun a b=>av a≠av b
theorem QeY:∀ {l:List Int},Once l→Srt (Qbb l)
 | [],_=>.nil
 | a::l,h=>by
   rw [Once,List.pairwise_cons] at h
   exact QrN (QeY h.2) fun m hm=>(h.1 m (Qdv.1 hm)).symm
variable {l m S c:List Int}
theorem QnL (h:Once l) (hm:Srt m) (he:∀ n,n∈m↔n∈l):m=Qbb l:=Qmm hm (QeY h) fun n=>by rw [he,Qdv]
def Qbz (S c:List Int):Option (List Int) :=
 if c.any fun n=>decide (n∈S) then some S
 else match c.filter fun n=>!decide (-n∈S) with
  | []=>none
  | a::l=>if l.all fun n=>decide (n=a) then some (S++[a]) else some S
def Qag (S:List Int):List (List Int)→Option (List Int)
 | []=>some S
 | c::F=>(Qbz S c).bind fun S=>Qag S F
def QhY (F:List (List Int)):Nat→List Int→Option (List Int)
 | 0,_=>none
 | k+1,S=>match Qag S F with
   | none=>none
   | some S'=>if S'.length=S.length then some S' else QhY F k S'
def Qbv (F:List (List Int)):Option (List Int):=QhY F (F.flatten.length+1) []
def YV (F:List (List Int)):Option (List Int):=(Qbv F).map Qbb
def Nz (F:List (List Int)):Prop:=∀ c∈F,∀ n∈c,n≠0
structure Inv (F:List (List Int)) (S:List Int):Prop where
 once:Once S
 up:∀ n∈S,UP F n
 nz:∀ n∈S,n≠0
theorem Once.cons (h:Once S) (hn:n∈S) (h0:n≠0):-n ∉ S:=fun h'=>by
 have hne:n≠-n:=by omega
 obtain ⟨i,hi,e1⟩:=List.mem_iff_getElem.1 hn
 obtain ⟨j,hj,e2⟩:=List.mem_iff_getElem.1 h'
 have key:=List.pairwise_iff_getElem.1 h
 have e:av n=av (-n):=by unfold av; split <;> split <;> omega
 rcases Nat.lt_trichotomy i j with hij | hij | hij
 ·exact key i j hi hj hij (by rw [e1,e2]; exact e)
 ·subst hij; exact hne (e1.symm.trans e2)
 ·exact key j i hj hi hij (by rw [e1,e2]; exact e.symm)
theorem QhF (hz:Nz F) (h:Inv F S) (hc:c∈F) :
 (Qbz S c=none→Confl F)∧∀ S',Qbz S c=some S'→Inv F S'∧(S'=S∨∃ n∈c,n ∉ S∧S'=S++[n]):=by
 unfold Qbz
 split
 ·exact ⟨fun h=>(by cases h),fun S' e=>by cases e; exact ⟨h,.inl rfl⟩⟩
 rename_i hn
 simp only [Bool.not_eq_true,List.any_eq_false,decide_eq_true_eq] at hn
 have hup:∀ m∈c,m ∉ c.filter (fun n=>!decide (-n∈S))→UP F (-m):=fun m hm hx=>by
  have:-m∈S:=by
   refine Classical.byContradiction fun hh=>hx (List.mem_filter.2 ⟨hm,by simpa using hh⟩)
  exact h.up _ this
 generalize hl:c.filter (fun n=>!decide (-n∈S))=left at hup
 cases left with
 | nil=>exact ⟨fun _=>⟨c,hc,fun m hm=>hup m hm (by simp)⟩,fun S' e=>by cases e⟩
 | cons a l =>
   simp only
   have ha:a∈c∧-a ∉ S:=by
    have:a∈c.filter (fun n=>!decide (-n∈S)):=by rw [hl]; simp
    have:=List.mem_filter.1 this
    exact ⟨this.1,by simpa using this.2⟩
   split
   ·rename_i hall
    refine ⟨fun h=>(by cases h),fun S' e=>?_⟩
    cases e
    simp only [List.all_eq_true,decide_eq_true_eq] at hall
    have hu:UP F a:=.mk c a hc ha.1 fun m hm hne=>hup m hm fun hx=>by
     simp only [List.mem_cons] at hx
     exact hne (hx.elim id (hall m))
    refine ⟨⟨?_,fun n hn=>?_,fun n hn=>?_⟩,.inr ⟨a,ha.1,hn a ha.1,rfl⟩⟩
    ·rw [Once,List.pairwise_append]
     refine ⟨h.once,by simp,fun x hx y hy=>?_⟩
     simp at hy
     subst hy
     intro e
     have:x=y∨x=-y:=by
      revert e; unfold av; split <;> split <;> omega
     rcases this with rfl | rfl
     ·exact hn _ ha.1 hx
     ·exact ha.2 hx
    ·simp only [List.mem_append,List.mem_singleton] at hn
     rcases hn with hn | rfl
     ·exact h.up n hn
     ·exact hu
    ·simp only [List.mem_append,List.mem_singleton] at hn
     rcases hn with hn | rfl
     ·exact h.nz n hn
     ·exact hz c hc _ ha.1
   ·exact ⟨fun h=>(by cases h),fun S' e=>by cases e; exact ⟨h,.inl rfl⟩⟩
theorem Qk7 {F:List (List Int)} (hz:Nz F):∀ {G:List (List Int)},(∀ c∈G,c∈F)→∀ {S:List Int},Inv F S→(Qag S G=none→Confl F)∧∀ S',Qag S G=some S'→Inv F S'∧S.length≤S'.length∧(S'.length=S.length→S'=S∧∀ c∈G,Qbz S c=some S)
 | [],_,S,h=>⟨fun h=>(by cases h),fun S' e=>by cases e; exact ⟨h,lR _,fun _=>⟨rfl,by simp⟩⟩⟩
 | c::G,hG,S,h=>by
   obtain ⟨h1,h2⟩:=QhF hz h (hG c (by simp))
   simp only [Qag]
   cases hs:Qbz S c with
   | none=>exact ⟨fun _=>h1 hs,fun S' e=>by cases e⟩
   | some S1 =>
     obtain ⟨i1,g⟩:=h2 S1 hs
     obtain ⟨k1,k2⟩:=Qk7 hz (G:=G) (fun c hc=>hG c (by simp [hc])) i1
     simp only [Option.bind_some]
     refine ⟨k1,fun S' e=>?_⟩
     obtain ⟨i2,l2,e2⟩:=k2 S' e
     have l1:S.length≤S1.length:=by
      rcases g with rfl | ⟨n,_,_,rfl⟩
      ·exact lR _
      ·simp
     refine ⟨i2,by omega,fun e=>?_⟩
     have es:S1=S:=by
      rcases g with rfl | ⟨n,_,_,rfl⟩
      ·rfl
      ·simp at l2; omega
     subst es
     obtain ⟨q1,q2⟩:=e2 e
     refine ⟨q1,fun d hd=>?_⟩
     simp only [List.mem_cons] at hd
     rcases hd with rfl | hd
     ·exact hs
     ·exact q2 d hd
theorem QhO (h:l.Nodup) (hs:∀ n∈l,n∈m):l.length≤m.length:=by
 induction l generalizing m with
 | nil=>simp
 | cons a l ih =>
   rw [List.nodup_cons] at h
   have ha:=hs a (by simp)
   have:=ih h.2 (m:=m.erase a) fun n hn=>by
    have hne:n≠a:=fun e=>h.1 (e▸hn)
    exact (List.mem_erase_of_ne hne).2 (hs n (by simp [hn]))
   have:=List.length_erase_of_mem ha
   have:=List.length_pos_of_mem ha
   simp
   omega
theorem Once.nodup (h:Once l):l.Nodup:=List.Pairwise.imp (fun {a b} (h:av a≠av b) (e:a=b)=>h (congrArg av e)) h
theorem Inv.len (h:Inv F S):S.length≤F.flatten.length:=QhO h.once.nodup fun n hn=>by
 obtain ⟨c,hc,hnc⟩:=(h.up n hn).in
 exact List.mem_flatten.2 ⟨c,hc,hnc⟩
theorem Qmj (h:Qbz S c=some S):(∃ n∈c,n∈S)∨∃ n∈c,∃ m∈c,n≠m∧-n ∉ S∧-m ∉ S:=by
 unfold Qbz at h
 split at h
 ·rename_i hh
  simp only [List.any_eq_true,decide_eq_true_eq] at hh
  exact .inl hh
 generalize hl:c.filter (fun n=>!decide (-n∈S))=left at h
 cases left with
 | nil=>cases h
 | cons a l =>
   simp only at h
   split at h
   ·simp at h
   ·rename_i hall
    simp only [List.all_eq_true,decide_eq_true_eq] at hall
    obtain ⟨b,hb,hne⟩:∃ b∈l,b≠a:=Classical.byContradiction fun hh=>hall fun x hx=>Classical.byContradiction fun e=>hh ⟨x,hx,e⟩
    have g:∀ x∈a::l,x∈c∧-x ∉ S:=fun x hx=>by
     rw [← hl] at hx
     have:=List.mem_filter.1 hx
     exact ⟨this.1,by simpa using this.2⟩
    have ga:=g a (by simp)
    have gb:=g b (by simp [hb])
    exact .inr ⟨b,gb.1,a,ga.1,hne,gb.2,ga.2⟩
theorem QfY {F:List (List Int)} (hz:Nz F):∀ (k:Nat) {S:List Int},Inv F S→F.flatten.length+1≤k+S.length→(QhY F k S=none→Confl F)∧∀ S',QhY F k S=some S'→Inv F S'∧Closed F (·∈S')
 | 0,S,h,hk=>by have:=h.len; omega
 | k+1,S,h,hk=>by
   obtain ⟨h1,h2⟩:=Qk7 hz (G:=F) (fun c hc=>hc) h
   simp only [QhY]
   cases hp:Qag S F with
   | none=>exact ⟨fun _=>h1 hp,fun S' e=>by cases e⟩
   | some S1 =>
     obtain ⟨i1,l1,e1⟩:=h2 S1 hp
     simp only
     split
     ·rename_i he
      refine ⟨fun h=>(by cases h),fun S' e=>?_⟩
      cases e
      obtain ⟨rfl,hst⟩:=e1 he
      exact ⟨i1,⟨fun n hn=>i1.once.cons hn (i1.nz n hn),fun c hc=>Qmj (hst c hc)⟩⟩
     ·exact QfY hz k i1 (by omega)
theorem Qj4 (F:List (List Int)):Inv F []:=⟨.nil,by simp,by simp⟩
theorem QmE (hz:Nz F):Qbv F=none↔Confl F:=by
 obtain ⟨h1,h2⟩:=QfY hz (F.flatten.length+1) (Qj4 F) (by simp)
 refine ⟨h1,fun hC=>?_⟩
 cases h:Qbv F with
 | none=>rfl
 | some S=>exact absurd hC (h2 S h).2.no
theorem QeE (hz:Nz F) (h:Qbv F=some S):Inv F S∧∀ n,n∈S↔UP F n:=by
 obtain ⟨h1,h2⟩:=QfY hz (F.flatten.length+1) (Qj4 F) (by simp)
 obtain ⟨i,c⟩:=h2 S h
 exact ⟨i,fun n=>⟨i.up n,fun u=>c.up u⟩⟩
theorem Qow (hz:Nz F):YV F=none↔Confl F:=by
 unfold YV; rw [Option.map_eq_none_iff,QmE hz]
theorem QdP (hz:Nz F) (h:YV F=some l):Srt l∧∀ n,n∈l↔UP F n:=by
 obtain ⟨S,hS,rfl⟩:=Option.map_eq_some_iff.1 h
 obtain ⟨i,hm⟩:=QeE hz hS
 exact ⟨QeY i.once,fun n=>by rw [Qdv,hm]⟩
def mn:Int:=-9223372036854775808
theorem QhP (h:n≠mn):neg n=-n:=if_neg h
def bad (c:List Int):Bool:=c.any fun n=>decide (n=0) || decide (neg n∈c)
def dd:List Int→List Int
 | []=>[]
 | a::l=>if a∈l then dd l else a::dd l
def canon (c:List Int):List Int:=Qbb (dd c)
def XM (c:List Int):List Int × Bool:=if bad c then ([],false) else (canon c,true)
theorem Qjj {n:Int}:∀ {c:List Int},n∈dd c↔n∈c
 | []=>by simp [dd]
 | a::l=>by
   unfold dd
   split
   ·rename_i h
    rw [Qjj (c:=l)]
    exact ⟨fun x=>by simp [x],fun x=>by simp at x; rcases x with rfl | x <;> assumption⟩
   ·simp [Qjj (c:=l)]
theorem Qik:bad c=true↔∃ n∈c,n=0∨neg n∈c:=by simp [bad]
theorem QBl (h:bad c=false):∀ n∈c,n≠0∧n≠mn∧-n ∉ c:=fun n hn=>by
 have:¬ ∃ n∈c,n=0∨neg n∈c:=fun x=>by rw [Qik.2 x] at h; cases h
 refine ⟨fun e=>this ⟨n,hn,.inl e⟩,fun e=>this ⟨n,hn,.inr ?_⟩,fun hm=>this ⟨n,hn,.inr ?_⟩⟩
 ·have:neg n=n:=by rw [e]; decide
  rw [this]; exact hn
 ·by_cases e:n=mn
  ·have:neg n=n:=by rw [e]; decide
   rw [this]; exact hn
  ·rw [QhP e]; exact hm
theorem QAv (hd:l.Nodup) (h:∀ n∈l,-n ∉ l):Once l:=by
 refine List.Pairwise.imp_of_mem (R:=fun a b:Int=>a≠b) (fun {a b} ha hb hne e=>?_) hd
 have:a=b∨b=-a:=by revert e; unfold av; split <;> split <;> omega
 rcases this with e | e
 ·exact hne e
 ·exact h a ha (e▸hb)
theorem QjV:∀ c:List Int,(dd c).Nodup
 | []=>.nil
 | a::l=>by
   unfold dd
   split
   ·exact QjV l
   ·rename_i h
    exact List.nodup_cons.2 ⟨fun x=>h (Qjj.1 x),QjV l⟩
theorem QAw (h:bad c=false):Once (dd c):=QAv (QjV c) fun n hn hm=>(QBl h n (Qjj.1 hn)).2.2 (Qjj.1 hm)
theorem Qfb:n∈canon c↔n∈c:=by rw [canon,Qdv,Qjj]
theorem QrO (h:bad c=false):Srt (canon c):=QeY (QAw h)
theorem Qod (h:bad c=false) (hl:Srt l) (hm:∀ n,n∈l↔n∈c):l=canon c:=Qmm hl (QrO h) fun n=>by rw [hm,Qfb]
def QyN (n:Int):Int:=if n<neg n then neg n else n
def ks (a b:Int):Prop:=QyN a<QyN b∨QyN a=QyN b∧a≤b
def X7:List Int→List Int
 | []=>[]
 | [a]=>[a]
 | a::b::l=>if a=b then X7 (b::l) else a::X7 (b::l)
def chk:Option Int→List Int→Bool
 | _,[]=>false
 | p,n::l=>(decide (n=0) || decide (n=mn) || decide (p=some (neg n))) || chk (some n) l
theorem Z6 {n:Int}:∀ {s:List Int},n∈X7 s↔n∈s
 | []=>by simp [X7]
 | [a]=>by simp [X7]
 | a::b::l=>by
   unfold X7
   split
   ·rename_i e; subst e
    rw [Z6 (s:=a::l)]; simp
   ·rw [List.mem_cons,Z6 (s:=b::l),List.mem_cons (a:=n) (b:=a)]
theorem QoX (a:Int) (l:List Int):∃ m,X7 (a::l)=a::m:=by
 induction l generalizing a with
 | nil=>exact ⟨[],rfl⟩
 | cons b l ih =>
   unfold X7
   split
   ·rename_i e; subst e; exact ih a
   ·exact ⟨_,rfl⟩
theorem Qob:∀ {p:Option Int} {l:List Int},chk p l=true→∃ n∈l,n=0∨n=mn∨p=some (neg n)∨neg n∈l
 | _,[],h=>by cases h
 | p,n::l,h=>by
   simp only [chk,Bool.or_eq_true,decide_eq_true_eq] at h
   rcases h with ((h | h) | h) | h
   ·exact ⟨n,by simp,.inl h⟩
   ·exact ⟨n,by simp,.inr (.inl h)⟩
   ·exact ⟨n,by simp,.inr (.inr (.inl h))⟩
   ·obtain ⟨m,hm,h⟩:=Qob h
    refine ⟨m,by simp [hm],?_⟩
    rcases h with h | h | h | h
    ·exact .inl h
    ·exact .inr (.inl h)
    ·injection h with h
     exact .inr (.inr (.inr (by rw [← h]; simp)))
    ·exact .inr (.inr (.inr (by simp [h])))
theorem Qsm (h:n≠mn):QyN n=av n:=by
 unfold QyN av; rw [QhP h]; split <;> split <;> omega
theorem Qie:∀ {p:Option Int} {s:List Int},s.Pairwise ks→chk p (X7 s)=false→Srt (X7 s)∧∀ n∈X7 s,n≠0∧n≠mn
 | p,[],_,_=>⟨.nil,by simp [X7]⟩
 | p,[a],_,h=>by
   simp only [X7,chk,Bool.or_false,Bool.or_eq_false_iff,decide_eq_false_iff_not] at h
   exact ⟨by simp [X7,Srt],fun n hn=>by simp [X7] at hn; subst hn; exact h.1⟩
 | p,a::b::l,hs,h=>by
   rw [List.pairwise_cons] at hs
   unfold X7 at h ⊢
   split at h
   ·rename_i e; subst e
    rw [if_pos rfl]
    exact Qie hs.2 h
   ·rename_i e
    rw [if_neg e]
    simp only [chk,Bool.or_eq_false_iff,decide_eq_false_iff_not] at h
    obtain ⟨g1,g2⟩:=Qie hs.2 h.2
    obtain ⟨m,hm⟩:=QoX b l
    have hb:=g2 b (by rw [hm]; simp)
    refine ⟨?_,fun n hn=>?_⟩
    ·rw [hm] at h g1 ⊢
     have hab:av a<av b:=by
      have h1:=hs.1 b (by simp)
      simp only [chk,Bool.or_eq_false_iff,decide_eq_false_iff_not,Option.some.injEq] at h
      have h2:=h.2.1.2
      rw [QhP hb.2] at h2
      unfold ks at h1
      rw [Qsm h.1.1.2,Qsm hb.2] at h1
      rcases h1 with h1 | ⟨h1,h3⟩
      ·exact h1
      ·exfalso; revert h1; unfold av; split <;> split <;> omega
     have g1':=g1
     rw [Srt,List.pairwise_cons] at g1'
     rw [Srt,List.pairwise_cons]
     refine ⟨fun c hc=>?_,g1⟩
     simp only [List.mem_cons] at hc
     rcases hc with rfl | hc
     ·exact hab
     ·have:=g1'.1 c hc; omega
    ·simp only [List.mem_cons] at hn
     rcases hn with rfl | hn
     ·exact h.1.1
     ·exact g2 n hn
theorem cleanP {s:List Int} (hs:s.Pairwise ks) (hm:∀ n,n∈s↔n∈c):(if chk none (X7 s) then ([],false) else (X7 s,true))=XM c:=by
 cases h:chk none (X7 s) with
 | true =>
   obtain ⟨n,hn,h⟩:=Qob h
   rw [Z6,hm] at hn
   have:bad c=true:=Qik.2 ⟨n,hn,by
    rcases h with h | h | h | h
    ·exact .inl h
    ·have:neg n=n:=by rw [h]; decide
     exact .inr (by rw [this]; exact hn)
    ·cases h
    ·rw [Z6,hm] at h; exact .inr h⟩
   simp [XM,this]
 | false =>
   obtain ⟨g1,g2⟩:=Qie hs h
   have hb:bad c=false:=by
    cases hb:bad c with
    | false=>rfl
    | true =>
      exfalso
      obtain ⟨n,hn,h⟩:=Qik.1 hb
      have hn':n∈X7 s:=by rw [Z6,hm]; exact hn
      obtain ⟨n0,nm⟩:=g2 n hn'
      rcases h with h | h
      ·exact n0 h
      ·rw [QhP nm] at h
       have h':-n∈X7 s:=by rw [Z6,hm]; exact h
       have ho:Once (X7 s):=List.Pairwise.imp (fun {a b} (h:av a<av b)=>by omega) g1
       exact ho.cons hn' n0 h'
   rw [XM,hb,Qod hb g1 fun n=>by rw [Z6,hm]]
   try rfl
def YN (v n:Int):Bool:=decide (n≠0∧-v≤n∧n≤v)
def right (v:Int) (F:List (List Int)):Bool:=decide (0≤v∧v≤16777216∧(F.length:Int)≤1048576)&&F.all fun c=>c.all (YN v)
theorem Xh:right v F=true↔(0≤v∧v≤16777216∧(F.length:Int)≤1048576)∧∀ c∈F,∀ n∈c,n≠0∧-v≤n∧n≤v:=by
 simp [right,YN]
theorem QdU (h:right v F=true):Nz F:=fun c hc n hn=>((Xh.1 h).2 c hc n hn).1
def follows (v:Int) (F:List (List Int)) (c:List Int):Bool :=
 right v F&&(c.all (YN v)&&(bad c || (YV (F++QAc (c.map fun n=>-n))).isNone))
def QhZ (m:List Bool) (n:Int):Bool:=decide (n > 0)&&m.getD (n - 1).toNat false || decide (n<0)&&!m.getD (-n - 1).toNat false
def QR (m:List Bool) (c:List Int):Bool:=c.any (QhZ m)
def Yn (v:Int) (F:List (List Int)) (m:List Bool):Bool:=right v F&&(decide ((m.length:Int)=v)&&F.all (QR m))
theorem Qso {m:List Bool} (h:QhZ m n=true):QhZ m (-n)=false:=by
 unfold QhZ at h ⊢
 rcases Int.lt_trichotomy n 0 with h0 | h0 | h0
 ·have h1:¬ n > 0:=by omega
  have h2:-n > 0:=by omega
  have h3:¬ -n<0:=by omega
  simpa [h0,h1,h2,h3] using h
 ·subst h0; simp at h
 ·have h1:¬ n<0:=by omega
  have h2:¬ -n > 0:=by omega
  have h3:-n<0:=by omega
  simpa [h0,h1,h2,h3] using h
theorem Zb {m:List Bool}:QR m c=true↔Sat (fun n=>QhZ m n=true) c:=by simp [QR,Sat]
theorem Qn7 (m:List Bool) (n:Int):QhZ m n=true→¬ QhZ m (-n)=true:=fun h h'=>by rw [Qso h] at h'; cases h'
end Go.Cl
namespace Go.Proofs.YtingdebioipemaaGreatDoor
open Go Go.Am Go.Cl
set_option maxRecDepth 100000
variable {P:Program} {G:Nat→Option V}
set_option maxHeartbeats 1000000
section
attribute [local go_sem] aZ lR zA zL and_true beq_self_eq_true Qaa zqd_0 zqd_1 Qvr Qvq Qvp Qvo zqd_2 zqd_3 zqd_4 zqd_5 zqd_6 zqd_7 zqd_8 zqd_9 decide_false decide_true gt_iff_lt Qt true_and true_implies
def ints (c:List Int):List V:=c.map (V.int .i64)
def row (c:List Int):V:=.lst 1 (ints c) false
def rows (F:List (List Int)):V:=.lst 1 (F.map row) false
def fml (v:Int) (F:List (List Int)):V:=.agg [.int .i64 v,rows F]
theorem Qe (c:List Int):(ints c).length=c.length:=by simp [ints]
variable {n:Int} {i:Nat} {c:List Int}
theorem Qud (h:c[i]?=some n):(ints c)[i]?=some (.int .i64 n):=by simp [ints,h]
theorem QaZ (h:c[i]?=some n):(ints c).getD i V.any=.int .i64 n:=by simp [ints,List.getD_eq_getElem?_getD,h]
theorem QbT {F:List (List Int)} (h:F[i]?=some c):(F.map row).getD i V.any=.lst 1 (ints c) false:=by simp [List.getD_eq_getElem?_getD,h,row]
theorem QQ:∀ c:List Int,Qb (ints c)=true
 | []=>rfl
 | n::c=>by have:=QQ c; simpa [ints,Qb,Qd] using this
theorem wneg {v:Int} (h:0≤v∧v≤16777216):IntKind.i64.wrap (0 - v)=-v:=by
 rw [Ya] <;> (try omega)
 all_goals (first | (simp [IntKind.min,IntKind.signed,IntKind.bits]; omega) | (simp [IntKind.max,IntKind.signed,IntKind.bits]; omega))
-- simp [IntKind.min, IntKind.signed, IntKind.bits]; omega) (by simp [IntKind.max, IntKind.signed, IntKind.bits]; omega)
theorem YR {n:Nat} (h:i<n) (hn:n≤9223372036854775807):IntKind.i64.wrap ((i:Int)+1)=((i+1:Nat):Int):=by
 rw [Ya]
 ·omega
 ·simp [IntKind.min,IntKind.signed,IntKind.bits]; omega
 ·simp [IntKind.max,IntKind.signed,IntKind.bits]; omega
def fmH (t:Nat) (v:Int) (F:List (List Int)):List (Option Ob):=[some (.arr t 24 [.int .i64 v,.lst 1 (F.map row) false])]
theorem QcC (hT:Qn P tab) (v:Int) (F:List (List Int)) (hF:F.length≤9223372036854775807) (hc:∀ c∈F,c.length≤9223372036854775807):Pure P G ZZ [fml v F] fun u=>u=.bool (right v F):=by
 intro t
 refine Xa 0 (zL _) (QM hT QN (by simp [Qaa]) (Qx 12 ?_))
 by_cases h1:v<0
 ·have hr:right v F=false:=by simp [right]; omega
  simp -implicitDefEqProofs (disch:=omega) only [go_sem,↓reduceIte,reduceCtorEq,rA,rq,rL,fml,rows,h1]
  iterate 9 (try (refine Qc 2 ?_; simp -implicitDefEqProofs (disch:=omega) only [go_sem,↓reduceIte,reduceCtorEq,rq]))
  try refine Qc 9 ?_
  try simp -implicitDefEqProofs (disch:=omega) only [go_sem,↓reduceIte,reduceCtorEq,rq]
  rw [hr]
 by_cases h2:v > 16777216
 ·have hr:right v F=false:=by simp [right]; omega
  simp -implicitDefEqProofs (disch:=omega) only [go_sem,↓reduceIte,reduceCtorEq,rA,rq,rL,fml,rows,h1]
  iterate 9 (try (refine Qc 2 ?_; simp -implicitDefEqProofs (disch:=omega) only [go_sem,↓reduceIte,reduceCtorEq,rA,rq,rL,h2]))
  try refine Qc 9 ?_
  try simp -implicitDefEqProofs (disch:=omega) only [go_sem,↓reduceIte,reduceCtorEq,rq]
  rw [hr]
 by_cases h3:(F.length:Int) > 1048576
 ·have hr:right v F=false:=by simp [right]; omega
  simp -implicitDefEqProofs (disch:=omega) only [go_sem,↓reduceIte,reduceCtorEq,rA,rq,rL,fml,rows,h1]
  iterate 9 (try (refine Qc 2 ?_; simp -implicitDefEqProofs (disch:=omega) only [go_sem,↓reduceIte,reduceCtorEq,rA,rq,rL,h2,h3,lM]))
  try refine Qc 9 ?_
  try simp -implicitDefEqProofs (disch:=omega) only [go_sem,↓reduceIte,reduceCtorEq,rq]
  rw [hr]
 simp -implicitDefEqProofs (disch:=omega) only [go_sem,↓reduceIte,reduceCtorEq,rA,rq,rL,fml,rows,h1]
 iterate 9 (try (refine Qc 2 ?_; simp -implicitDefEqProofs (disch:=omega) only [go_sem,↓reduceIte,reduceCtorEq,rA,rq,rL,h2,h3,lM]))
 refine Qc 40 ?_
 simp -implicitDefEqProofs (disch:=omega) only [go_sem,↓reduceIte,reduceCtorEq,rq,lM]
 have hv:0≤v∧v≤16777216:=by omega
 have hneg:=wneg hv
 refine QX (fun m fr σ=>∃ i,i≤F.length∧m=F.length - i∧(∀ c∈F.take i,c.all (YN v)=true)∧Qi fr 1=.ptr 0 t 0∧Qi fr 22=.lst 1 (F.map row) false∧Qi fr 23=.int .i64 F.length∧Qi fr 24=.int .i64 i∧σ=⟨t+1,fmH t v F⟩)
  (fun e fr σ=>(e=.ret∧Qi fr 2=.bool false∧right v F=false)∨(e=.ex 0∧right v F=true))
  (m0:=F.length) ⟨0,by omega,rfl,by simp,?_⟩ (fun m fr σ hJ=>?_) (fun e fr σ hE=>?_)
 ·simp -implicitDefEqProofs (disch:=omega) only [go_sem,↓reduceIte,reduceCtorEq,rq,fmH]
  simp
 ·obtain ⟨i,hi,rfl,hok,f1,f22,f23,f24,rfl⟩:=hJ
  refine Qx 1000 ?_
  rcases Nat.lt_or_ge i F.length with hlt | hge
  ·obtain ⟨c,hci⟩:∃ c,F[i]?=some c:=⟨_,List.getElem?_eq_getElem hlt⟩
   have hD:=QbT hci
   have hcm:=List.mem_of_getElem? hci
   have e2:=YR hlt hF
   have hcl:=hc c hcm
   simp -implicitDefEqProofs (disch:=omega) only [go_sem,↓reduceIte,rq,fmH,lM,Qe,f22,f23,f24,hlt,hD]
   refine QX (fun m fr σ=>∃ k,k≤c.length∧m=c.length - k∧(∀ n∈c.take k,YN v n=true)∧Qi fr 1=.ptr 0 t 0∧Qi fr 22=.lst 1 (F.map row) false∧Qi fr 23=.int .i64 F.length∧Qi fr 24=.int .i64 i∧Qi fr 28=.lst 1 (ints c) false∧Qi fr 29=.int .i64 c.length∧Qi fr 30=.int .i64 k∧σ=⟨t+1,fmH t v F⟩)
    (fun e fr σ=>(e=.ret∧Qi fr 2=.bool false∧right v F=false)∨(e=.ex 2∧c.all (YN v)=true∧Qi fr 1=.ptr 0 t 0∧Qi fr 22=.lst 1 (F.map row) false∧Qi fr 23=.int .i64 F.length∧Qi fr 24=.int .i64 i∧σ=⟨t+1,fmH t v F⟩))
    (m0:=c.length) ⟨0,by omega,rfl,by simp,?_⟩ (fun m fr σ hJ=>?_) (fun e fr σ hE=>?_)
   ·simp -implicitDefEqProofs (disch:=omega) only [go_sem,↓reduceIte,rq,fmH,f1,f22,f23,f24]
    simp
   ·obtain ⟨k,hk,rfl,hok2,f1,f22,f23,f24,f28,f29,f30,rfl⟩:=hJ
    refine Qx 14 ?_
    rcases Nat.lt_or_ge k c.length with hlt2 | hge
    ·obtain ⟨n,hnk⟩:∃ n,c[k]?=some n:=⟨_,List.getElem?_eq_getElem hlt2⟩
     have hD2:=QaZ hnk
     have hnm:=List.mem_of_getElem? hnk
     have e3:=YR hlt2 hcl
     cases hl:YN v n with
     | false =>
       have hr:right v F=false:=by
        have:F.all (fun c=>c.all (YN v))=false:=by
         rw [List.all_eq_false]
         exact ⟨c,hcm,by rw [Bool.not_eq_true,List.all_eq_false]; exact ⟨n,hnm,by simp [hl]⟩⟩
        simp [right,this]
       simp only [YN,decide_eq_false_iff_not] at hl
       by_cases g1:n=0
       ·simp -implicitDefEqProofs (disch:=omega) only [go_sem,↓reduceIte,rq,fmH,Qe,f28,f29,f30,hlt2,hD2,g1]
        iterate 16 (try (refine Qc 2 ?_; simp -implicitDefEqProofs (disch:=omega) only [go_sem,↓reduceIte,reduceCtorEq,rq,f1,f22,f23,f24]))
        exact hr
       have g1':(n==0)=false:=by simpa using g1
       by_cases g2:n > v
       ·simp -implicitDefEqProofs (disch:=omega) only [go_sem,↓reduceIte,rq,fmH,Qe,f28,f29,f30,hlt2,hD2]
        iterate 16 (try (refine Qc 2 ?_; simp -implicitDefEqProofs (disch:=omega) only [go_sem,↓reduceIte,reduceCtorEq,rA,rq,rL,f1,f22,f23,f24,g1',g2]))
        exact hr
       have g3:n < -v:=by omega
       simp -implicitDefEqProofs (disch:=omega) only [go_sem,↓reduceIte,rq,fmH,Qe,f28,f29,f30,hlt2,hD2]
       iterate 16 (try (refine Qc 2 ?_; simp -implicitDefEqProofs (disch:=omega) only [go_sem,↓reduceIte,reduceCtorEq,rA,rq,rL,hneg,f1,f22,f23,f24,g1',g2,g3]))
       exact hr
     | true =>
       have hl':=hl
       simp only [YN,decide_eq_true_eq] at hl
       have g1':(n==0)=false:=by simpa using hl.1
       have g2:¬ n > v:=by omega
       have g3:¬ n < -v:=by omega
       simp -implicitDefEqProofs (disch:=omega) only [go_sem,↓reduceIte,rq,fmH,Qe,f28,f29,f30,hlt2,hD2]
       iterate 16 (try (refine Qc 2 ?_; simp -implicitDefEqProofs (disch:=omega) only [go_sem,↓reduceIte,rA,rq,rL,hneg,f1,f30,g1',g2,g3]))
       refine ⟨c.length - (k+1),_,_,by omega,Shift.refl _ _ _ _,k+1,by omega,rfl,fun n hn=>?_,?_⟩
       ·rw [List.take_add_one,hnk] at hn
        simp at hn
        rcases hn with hn | rfl
        ·exact hok2 n hn
        ·exact hl'
       ·simp -implicitDefEqProofs (disch:=omega) only [go_sem,↓reduceIte,rq,f1,f22,f23,f24,f28,f29,e3]
        try simp
    ·have hk:k=c.length:=by omega
     subst hk
     simp -implicitDefEqProofs (disch:=omega) only [go_sem,↓reduceIte,reduceCtorEq,rq,fmH,f1,f22,f23,f24,f29,f30,Nat.lt_irrefl]
     rw [List.take_length] at hok2
     simpa using hok2
   ·rcases hE with ⟨rfl,f2,hr⟩ | ⟨rfl,hcc,f1,f22,f23,f24,rfl⟩
    ·refine Qc 1000 ?_
     simp -implicitDefEqProofs (disch:=omega) only [go_sem,f2,hr]
    ·refine Qc 1000 ?_
     simp -implicitDefEqProofs (disch:=omega) only [go_sem,↓reduceIte,fmH,f24]
     refine ⟨F.length - (i+1),_,_,by omega,Shift.refl _ _ _ _,i+1,by omega,rfl,fun d hd=>?_,?_⟩
     ·rw [List.take_add_one,hci] at hd
      simp only [Option.toList_some,List.mem_append,List.mem_singleton] at hd
      rcases hd with hd | rfl
      ·exact hok d hd
      ·exact hcc
     ·simp -implicitDefEqProofs (disch:=omega) only [go_sem,↓reduceIte,rq,f1,f22,f23,e2]
      try simp
  ·have hi:i=F.length:=by omega
   subst hi
   simp -implicitDefEqProofs (disch:=omega) only [go_sem,↓reduceIte,reduceCtorEq,rq,fmH,f23,f24,Nat.lt_irrefl]
   rw [List.take_length] at hok
   have:F.all (fun c=>c.all (YN v))=true:=List.all_eq_true.2 hok
   simp [right,this]
   omega
 ·rcases hE with ⟨rfl,f2,hr⟩ | ⟨rfl,hr⟩
  ·refine Qc 1000 ?_
   simp -implicitDefEqProofs (disch:=omega) only [go_sem,f2,hr]
  ·refine Qc 1000 ?_
   simp -implicitDefEqProofs (disch:=omega) only [go_sem,↓reduceIte,hr]
end
end Go.Proofs.YtingdebioipemaaGreatDoor
