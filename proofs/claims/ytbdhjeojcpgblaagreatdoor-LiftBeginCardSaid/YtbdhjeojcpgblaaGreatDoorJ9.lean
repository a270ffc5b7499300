/- Ours. -/
import Derived.Test.YtbdhjeojcpgblaaGreatDoorAmD
import Derived.Test.YtbdhjeojcpgblaaGreatDoorJ8
import Derived.Test.YtbdhjeojcpgblaaGreatDoorY
open Nat renaming reduceEqDiff → rq, reduceAdd → rA, reduceLeDiff → rL, reduceLT → rT, zero_add → zA, le_refl → lR, zero_le → zL, add_zero → aZ
open List renaming length_cons → lC, length_nil → lN, take_succ_cons → tSq, length_append → lA, nil_append → nA, cons_append → cA, append_assoc → aA, take_nil → tN, take_zero → tZ, length_map → lM
open Bool renaming not_false → nF, not_true → nT
namespace Go.Proofs.YtbdhjeojcpgblaaGreatDoor
open Go Go.Am
set_option maxRecDepth 100000
set_option maxHeartbeats 8000000
def ofB:List Nat→Nat
 | []=>0
 | b::l=>b+256 * ofB l
def m8 (m:Nat):Nat→Nat
 | 0=>0
 | w+1=>m+256 * m8 m w
def bytes (l:List Nat):Prop:=∀ b∈l,b<256
theorem QCn (x y m n:Nat) (hx:x<256) (hm:m<256):(x+256 * y) &&& (m+256 * n)=(x &&& m)+256 * (y &&& n):=Qcq 8 x y m n hx hm
def g1 (b:Nat):Nat:=((b / 2) &&& 0x55)+(b &&& 0x55)
def g2 (b:Nat):Nat:=((b / 4) &&& 0x33)+(b &&& 0x33)
def g3 (b:Nat):Nat:=(b / 16+b) % 16
def pop8 (b:Nat):Nat:=g3 (g2 (g1 b))
def st1 (w x:Nat):Nat:=((x / 2) &&& m8 0x55 w)+(x &&& m8 0x55 w)
def st2 (w x:Nat):Nat:=((x / 4) &&& m8 0x33 w)+(x &&& m8 0x33 w)
def st3 (w x:Nat):Nat:=(x / 16+x) &&& m8 0x0f w
theorem f1:∀ b,b<256→∀ e,e<2→(b / 2+128 * e) &&& 0x55=(b / 2) &&& 0x55:=by decide +kernel
theorem f2:∀ b,b<256→∀ e,e<4→(b / 4+64 * e) &&& 0x33=(b / 4) &&& 0x33:=by decide +kernel
theorem g1_lt:∀ b,b<256→g1 b<256:=by decide +kernel
theorem g2_nib:∀ b,b<256→g2 (g1 b) % 16≤4∧g2 (g1 b) / 16≤4:=by decide +kernel
theorem g2_lt:∀ b,b<256→g2 (g1 b)<256:=by decide +kernel
theorem QRJ:∀ b,b<256→pop8 b≤8:=by decide +kernel
theorem QPK:∀ b,b<256→pop8 b=0→b=0:=by decide +kernel
theorem pop8_1:∀ b,b<256→pop8 b=1→b=1∨b=2∨b=4∨b=8∨b=16∨b=32∨b=64∨b=128:=by decide +kernel
theorem QPE:∀ l:List Nat,bytes l→st1 l.length (ofB l)=ofB (l.map g1)
 | [],_=>rfl
 | b::l,h=>by
   have hb:=h b (by simp)
   have ih:=QPE l fun c hc=>h c (by simp [hc])
   have e1:(b+256 * ofB l) / 2=(b / 2+128 * (ofB l % 2))+256 * (ofB l / 2):=by omega
   have e2:=f1 b hb (ofB l % 2) (by omega)
   show (((b+256 * ofB l) / 2) &&& (0x55+256 * m8 0x55 l.length))+((b+256 * ofB l) &&& (0x55+256 * m8 0x55 l.length))=g1 b+256 * ofB (l.map g1)
   rw [e1,QCn _ _ _ _ (by omega) (by omega),QCn _ _ _ _ hb (by omega),e2,← ih]
   show _=((b / 2 &&& 0x55)+(b &&& 0x55))+256 * (((ofB l / 2) &&& m8 0x55 l.length)+(ofB l &&& m8 0x55 l.length))
   omega
theorem QPD:∀ l:List Nat,bytes l→st2 l.length (ofB l)=ofB (l.map g2)
 | [],_=>rfl
 | b::l,h=>by
   have hb:=h b (by simp)
   have ih:=QPD l fun c hc=>h c (by simp [hc])
   have e1:(b+256 * ofB l) / 4=(b / 4+64 * (ofB l % 4))+256 * (ofB l / 4):=by omega
   have e2:=f2 b hb (ofB l % 4) (by omega)
   show (((b+256 * ofB l) / 4) &&& (0x33+256 * m8 0x33 l.length))+((b+256 * ofB l) &&& (0x33+256 * m8 0x33 l.length))=g2 b+256 * ofB (l.map g2)
   rw [e1,QCn _ _ _ _ (by omega) (by omega),QCn _ _ _ _ hb (by omega),e2,← ih]
   show _=((b / 4 &&& 0x33)+(b &&& 0x33))+256 * (((ofB l / 4) &&& m8 0x33 l.length)+(ofB l &&& m8 0x33 l.length))
   omega
def nibs (l:List Nat):Prop:=∀ b∈l,b<256∧b % 16≤4∧b / 16≤4
theorem QEZ:∀ {l:List Nat},nibs l→ofB l % 16≤4
 | [],_=>by simp [ofB]
 | b::l,h=>by
   have:=(h b (by simp)).2.1
   show (b+256 * ofB l) % 16≤4
   omega
theorem QPC:∀ l:List Nat,nibs l→st3 l.length (ofB l)=ofB (l.map g3)
 | [],_=>rfl
 | b::l,h=>by
   obtain ⟨hb,h1,h2⟩:=h b (by simp)
   have hl:nibs l:=fun c hc=>h c (by simp [hc])
   have ih:=QPC l hl
   have hlow:=QEZ hl
   have e1:(b+256 * ofB l) / 16+(b+256 * ofB l)=(b / 16+16 * (ofB l % 16)+b)+256 * (ofB l / 16+ofB l):=by omega
   show (((b+256 * ofB l) / 16+(b+256 * ofB l)) &&& (0x0f+256 * m8 0x0f l.length))=g3 b+256 * ofB (l.map g3)
   rw [e1,QCn _ _ _ _ (by omega) (by omega),← ih]
   have e2:(b / 16+16 * (ofB l % 16)+b) &&& 0x0f=g3 b:=by
    rw [show (0x0f:Nat)=2 ^ 4 - 1 from rfl,Nat.and_two_pow_sub_one_eq_mod]
    unfold g3
    omega
   rw [e2]; rfl
def f8a (y:Nat):Nat:=y+y / 256
def f8b (y:Nat):Nat:=y+y / 65536
def f8c (y:Nat):Nat:=y+y / 4294967296
def QD5 (x:Nat):Nat:=f8c (f8b (f8a (st3 8 (st2 8 (st1 8 x))))) % 128
def QoP (x:Nat):List Nat:=[x % 256,x / 256 % 256,x / 65536 % 256,x / 16777216 % 256,x / 4294967296 % 256,x / 1099511627776 % 256,x / 281474976710656 % 256,x / 72057594037927936]
variable {x p0 p1 p2 p3 p4 p5 p6 p7:Nat}
theorem Qrw (h:x<18446744073709551616):ofB (QoP x)=x∧bytes (QoP x):=by
 refine ⟨by simp only [QoP,ofB]; omega,fun b hb=>?_⟩
 simp only [QoP,List.mem_cons,List.not_mem_nil,or_false] at hb
 omega
theorem dv {n lo hi:Nat} (h:lo<n):(lo+n * hi) / n=hi:=by
 rw [Nat.add_mul_div_left _ _ (by omega),Nat.div_eq_of_lt h,Nat.zero_add]
theorem w8_e0 (q0:p0≤8) (q1:p1≤8) (q2:p2≤8) (q3:p3≤8) (q4:p4≤8) (q5:p5≤8) (q6:p6≤8) (q7:p7≤8):p0+256 * (p1+256 * (p2+256 * (p3+256 * (p4+256 * (p5+256 * (p6+256 * (p7+256 * 0)))))))=p0+256 * (p1+256 * p2+65536 * p3+16777216 * p4+4294967296 * p5+1099511627776 * p6+281474976710656 * p7):=by omega
theorem w8_e1 (q0:p0≤8) (q1:p1≤8) (q2:p2≤8) (q3:p3≤8) (q4:p4≤8) (q5:p5≤8) (q6:p6≤8) (q7:p7≤8):(p0+256 * (p1+256 * p2+65536 * p3+16777216 * p4+4294967296 * p5+1099511627776 * p6+281474976710656 * p7)) / 256=p1+256 * p2+65536 * p3+16777216 * p4+4294967296 * p5+1099511627776 * p6+281474976710656 * p7:=dv (by omega)
theorem w8_e2 (q0:p0≤8) (q1:p1≤8) (q2:p2≤8) (q3:p3≤8) (q4:p4≤8) (q5:p5≤8) (q6:p6≤8) (q7:p7≤8):p0+256 * (p1+256 * p2+65536 * p3+16777216 * p4+4294967296 * p5+1099511627776 * p6+281474976710656 * p7)+(p1+256 * p2+65536 * p3+16777216 * p4+4294967296 * p5+1099511627776 * p6+281474976710656 * p7)=((p0+p1)+256 * (p1+p2))+65536 * ((p2+p3)+256 * (p3+p4)+65536 * (p4+p5)+16777216 * (p5+p6)+4294967296 * (p6+p7)+1099511627776 * p7):=by omega
theorem w8_e3 (q0:p0≤8) (q1:p1≤8) (q2:p2≤8) (q3:p3≤8) (q4:p4≤8) (q5:p5≤8) (q6:p6≤8) (q7:p7≤8):(((p0+p1)+256 * (p1+p2))+65536 * ((p2+p3)+256 * (p3+p4)+65536 * (p4+p5)+16777216 * (p5+p6)+4294967296 * (p6+p7)+1099511627776 * p7)) / 65536=(p2+p3)+256 * (p3+p4)+65536 * (p4+p5)+16777216 * (p5+p6)+4294967296 * (p6+p7)+1099511627776 * p7:=dv (by omega)
theorem w8_e4 (q0:p0≤8) (q1:p1≤8) (q2:p2≤8) (q3:p3≤8) (q4:p4≤8) (q5:p5≤8) (q6:p6≤8) (q7:p7≤8):((p0+p1)+256 * (p1+p2))+65536 * ((p2+p3)+256 * (p3+p4)+65536 * (p4+p5)+16777216 * (p5+p6)+4294967296 * (p6+p7)+1099511627776 * p7)+((p2+p3)+256 * (p3+p4)+65536 * (p4+p5)+16777216 * (p5+p6)+4294967296 * (p6+p7)+1099511627776 * p7)=((p0+p1+p2+p3)+256 * (p1+p2+p3+p4)+65536 * (p2+p3+p4+p5)+16777216 * (p3+p4+p5+p6))+4294967296 * ((p4+p5+p6+p7)+256 * (p5+p6+p7)+65536 * (p6+p7)+16777216 * p7):=by omega
theorem w8_e5 (q0:p0≤8) (q1:p1≤8) (q2:p2≤8) (q3:p3≤8) (q4:p4≤8) (q5:p5≤8) (q6:p6≤8) (q7:p7≤8):(((p0+p1+p2+p3)+256 * (p1+p2+p3+p4)+65536 * (p2+p3+p4+p5)+16777216 * (p3+p4+p5+p6))+4294967296 * ((p4+p5+p6+p7)+256 * (p5+p6+p7)+65536 * (p6+p7)+16777216 * p7)) / 4294967296=(p4+p5+p6+p7)+256 * (p5+p6+p7)+65536 * (p6+p7)+16777216 * p7:=dv (by omega)
theorem w8_e6 (q0:p0≤8) (q1:p1≤8) (q2:p2≤8) (q3:p3≤8) (q4:p4≤8) (q5:p5≤8) (q6:p6≤8) (q7:p7≤8):((p0+p1+p2+p3)+256 * (p1+p2+p3+p4)+65536 * (p2+p3+p4+p5)+16777216 * (p3+p4+p5+p6))+4294967296 * ((p4+p5+p6+p7)+256 * (p5+p6+p7)+65536 * (p6+p7)+16777216 * p7)+((p4+p5+p6+p7)+256 * (p5+p6+p7)+65536 * (p6+p7)+16777216 * p7)=(p0+p1+p2+p3+p4+p5+p6+p7)+128 * (2 * ((p1+p2+p3+p4+p5+p6+p7)+256 * (p2+p3+p4+p5+p6+p7)+65536 * (p3+p4+p5+p6+p7)+16777216 * (p4+p5+p6+p7)+4294967296 * (p5+p6+p7)+1099511627776 * (p6+p7)+281474976710656 * p7)):=by omega
theorem w8_a (q0:p0≤8) (q1:p1≤8) (q2:p2≤8) (q3:p3≤8) (q4:p4≤8) (q5:p5≤8) (q6:p6≤8) (q7:p7≤8):f8a (p0+256 * (p1+256 * p2+65536 * p3+16777216 * p4+4294967296 * p5+1099511627776 * p6+281474976710656 * p7))=((p0+p1)+256 * (p1+p2))+65536 * ((p2+p3)+256 * (p3+p4)+65536 * (p4+p5)+16777216 * (p5+p6)+4294967296 * (p6+p7)+1099511627776 * p7):=by
 rw [f8a,w8_e1 q0 q1 q2 q3 q4 q5 q6 q7,w8_e2 q0 q1 q2 q3 q4 q5 q6 q7]
theorem w8_b (q0:p0≤8) (q1:p1≤8) (q2:p2≤8) (q3:p3≤8) (q4:p4≤8) (q5:p5≤8) (q6:p6≤8) (q7:p7≤8):f8b (((p0+p1)+256 * (p1+p2))+65536 * ((p2+p3)+256 * (p3+p4)+65536 * (p4+p5)+16777216 * (p5+p6)+4294967296 * (p6+p7)+1099511627776 * p7))=((p0+p1+p2+p3)+256 * (p1+p2+p3+p4)+65536 * (p2+p3+p4+p5)+16777216 * (p3+p4+p5+p6))+4294967296 * ((p4+p5+p6+p7)+256 * (p5+p6+p7)+65536 * (p6+p7)+16777216 * p7):=by
 rw [f8b,w8_e3 q0 q1 q2 q3 q4 q5 q6 q7,w8_e4 q0 q1 q2 q3 q4 q5 q6 q7]
theorem w8_c (q0:p0≤8) (q1:p1≤8) (q2:p2≤8) (q3:p3≤8) (q4:p4≤8) (q5:p5≤8) (q6:p6≤8) (q7:p7≤8):f8c (((p0+p1+p2+p3)+256 * (p1+p2+p3+p4)+65536 * (p2+p3+p4+p5)+16777216 * (p3+p4+p5+p6))+4294967296 * ((p4+p5+p6+p7)+256 * (p5+p6+p7)+65536 * (p6+p7)+16777216 * p7))=(p0+p1+p2+p3+p4+p5+p6+p7)+128 * (2 * ((p1+p2+p3+p4+p5+p6+p7)+256 * (p2+p3+p4+p5+p6+p7)+65536 * (p3+p4+p5+p6+p7)+16777216 * (p4+p5+p6+p7)+4294967296 * (p5+p6+p7)+1099511627776 * (p6+p7)+281474976710656 * p7)):=by
 rw [f8c,w8_e5 q0 q1 q2 q3 q4 q5 q6 q7,w8_e6 q0 q1 q2 q3 q4 q5 q6 q7]
theorem fin8 (l:List Nat) (hl:l.length=8) (hp:∀ b∈l,b≤8):f8c (f8b (f8a (ofB l))) % 128=l.sum:=by
 match l,hl with
 | [p0,p1,p2,p3,p4,p5,p6,p7],_ =>
   have q0:=hp p0 (by simp)
   have q1:=hp p1 (by simp)
   have q2:=hp p2 (by simp)
   have q3:=hp p3 (by simp)
   have q4:=hp p4 (by simp)
   have q5:=hp p5 (by simp)
   have q6:=hp p6 (by simp)
   have q7:=hp p7 (by simp)
   simp only [ofB,List.sum_cons,List.sum_nil]
   rw [w8_e0 q0 q1 q2 q3 q4 q5 q6 q7,w8_a q0 q1 q2 q3 q4 q5 q6 q7,w8_b q0 q1 q2 q3 q4 q5 q6 q7,w8_c q0 q1 q2 q3 q4 q5 q6 q7,Nat.add_mul_mod_self_left,Nat.mod_eq_of_lt (by omega)]
   omega
theorem QBA (l:List Nat) (h8:l.length=8) (h2:bytes l):QD5 (ofB l)=(l.map pop8).sum:=by
 have hb1:bytes (l.map g1):=fun c hc=>by obtain ⟨b,hb,rfl⟩:=List.mem_map.1 hc; exact g1_lt b (h2 b hb)
 have hn:nibs ((l.map g1).map g2):=fun c hc=>by
  obtain ⟨d,hd,rfl⟩:=List.mem_map.1 hc
  obtain ⟨b,hb,rfl⟩:=List.mem_map.1 hd
  exact ⟨g2_lt b (h2 b hb),g2_nib b (h2 b hb)⟩
 have e1:=QPE l h2
 have e2:=QPD _ hb1
 have e3:=QPC _ hn
 simp only [List.length_map,h8] at e1 e2 e3
 have hm:(((l.map g1).map g2).map g3)=l.map pop8:=by simp only [List.map_map]; rfl
 have hf:=fin8 (l.map pop8) (by simp [h8]) fun c hc=>by
  obtain ⟨b,hb,rfl⟩:=List.mem_map.1 hc
  exact QRJ b (h2 b hb)
 unfold QD5
 rw [e1,e2,e3,hm]
 exact hf
theorem QRy (h:x<18446744073709551616):QD5 x=((QoP x).map pop8).sum:=by
 obtain ⟨h1,h2⟩:=Qrw h
 have h3:=QBA (QoP x) rfl h2
 rwa [h1] at h3
theorem QPJ:∀ l:List Nat,bytes l→(l.map pop8).sum=0→ofB l=0
 | [],_,_=>rfl
 | b::l,h,hs=>by
   simp only [List.map_cons,List.sum_cons] at hs
   have h1:=QPK b (h b (by simp)) (by omega)
   have h2:=QPJ l (fun c hc=>h c (by simp [hc])) (by omega)
   show b+256 * ofB l=0
   omega
theorem QPI:∀ l:List Nat,bytes l→(l.map pop8).sum=1→∃ k,k<8 * l.length∧ofB l=2 ^ k
 | [],_,hs=>by simp at hs
 | b::l,h,hs=>by
   simp only [List.map_cons,List.sum_cons] at hs
   have hl:bytes l:=fun c hc=>h c (by simp [hc])
   have hb:=h b (by simp)
   rcases Nat.eq_zero_or_pos (pop8 b) with h0 | h0
   ·have hb0:=QPK b hb h0
    obtain ⟨k,hk,e⟩:=QPI l hl (by omega)
    refine ⟨k+8,by simp; omega,?_⟩
    show b+256 * ofB l=_
    rw [hb0,e,Nat.pow_add]
    omega
   ·have hz:=QPJ l hl (by omega)
    have h1:=pop8_1 b hb (by omega)
    show ∃ k,k<8 * (l.length+1)∧b+256 * ofB l=2 ^ k
    rw [hz]
    rcases h1 with rfl | rfl | rfl | rfl | rfl | rfl | rfl | rfl
    ·exact ⟨0,by omega,rfl⟩
    ·exact ⟨1,by omega,rfl⟩
    ·exact ⟨2,by omega,rfl⟩
    ·exact ⟨3,by omega,rfl⟩
    ·exact ⟨4,by omega,rfl⟩
    ·exact ⟨5,by omega,rfl⟩
    ·exact ⟨6,by omega,rfl⟩
    ·exact ⟨7,by omega,rfl⟩
theorem QEv (h:x<18446744073709551616) (h1:QD5 x=1):∃ k,k<64∧x=2 ^ k:=by
 obtain ⟨e1,e2⟩:=Qrw h
 rw [QRy h] at h1
 obtain ⟨k,hk,e⟩:=QPI _ e2 h1
 exact ⟨k,hk,by rw [← e1,e]⟩
theorem QEu:∀ k,k<64→QD5 (2 ^ k)=1:=by decide +kernel
variable {P:Program} {G:Nat→Option V}
section
attribute [local go_sem] Nat.le_refl Nat.mul_one Nat.zero_add bne_self_eq_false XH QHt QHs QHr QHq QHp QHo QHn QHm Xd QHl QHk QHj QHi Qu QdP QHP QHO QHN QHM
variable {a x:Nat}
theorem wu (h:a<18446744073709551616):IntKind.u64.wrap (a:Int)=(a:Int):=QEm (by omega) (by omega)
theorem ands {m:Nat} (ha:a<18446744073709551616) (hm:m<18446744073709551616):Qcb .u64 (a:Int) (m:Int)=((a &&& m:Nat):Int):=by
 unfold Qcb
 have h1:(BitVec.ofInt IntKind.u64.bits (a:Int)).toNat=a:=by
  show (BitVec.ofInt 64 (a:Int)).toNat=a
  rw [BitVec.toNat_ofInt]; omega
 have h2:(BitVec.ofInt IntKind.u64.bits (m:Int)).toNat=m:=by
  show (BitVec.ofInt 64 (m:Int)).toNat=m
  rw [BitVec.toNat_ofInt]; omega
 rw [BitVec.toNat_and,h1,h2]
 exact wu (by have:=Nat.and_le_right (n:=a) (m:=m); omega)
theorem QTE (a:Nat) (k:Nat) (hk:k≤64):((a:Int)).fdiv (2 ^ min k 64)=((a / 2 ^ k:Nat):Int):=by
 rw [Nat.min_eq_left hk,Int.fdiv_eq_ediv_of_nonneg _ (by exact Int.le_of_lt (Int.pow_pos (by omega)))]
 simp
theorem QtN (a m:Nat):a &&& m≤m:=Nat.and_le_right
theorem ones1 (hx:x<18446744073709551616):IntKind.u64.wrap (Qcb .u64 ((x:Int).fdiv (2 ^ min 1 64)) 6148914691236517205+Qcb .u64 (x:Int) 6148914691236517205)=((st1 8 x:Nat):Int)∧st1 8 x<18446744073709551616:=by
 have e:st1 8 x=(x / 2 &&& 6148914691236517205)+(x &&& 6148914691236517205):=rfl
 have h1:=QtN (x / 2) 6148914691236517205
 have h2:=QtN x 6148914691236517205
 have a1:=ands (a:=x / 2) (m:=6148914691236517205) (by omega) (by omega)
 have a2:=ands (a:=x) (m:=6148914691236517205) (by omega) (by omega)
 have s:=QTE x 1 (by omega)
 rw [Nat.pow_one] at s
 refine ⟨?_,by omega⟩
 rw [s,show (6148914691236517205:Int)=((6148914691236517205:Nat):Int) from rfl,a1,a2,e,← Int.natCast_add,wu (by omega)]
theorem ones2 (hx:x<18446744073709551616):IntKind.u64.wrap (Qcb .u64 ((x:Int).fdiv (2 ^ min 2 64)) 3689348814741910323+Qcb .u64 (x:Int) 3689348814741910323)=((st2 8 x:Nat):Int)∧st2 8 x≤7378697629483820646:=by
 have e:st2 8 x=(x / 4 &&& 3689348814741910323)+(x &&& 3689348814741910323):=rfl
 have h1:=QtN (x / 4) 3689348814741910323
 have h2:=QtN x 3689348814741910323
 have a1:=ands (a:=x / 4) (m:=3689348814741910323) (by omega) (by omega)
 have a2:=ands (a:=x) (m:=3689348814741910323) (by omega) (by omega)
 have s:=QTE x 2 (by omega)
 rw [show 2 ^ 2=4 from rfl] at s
 refine ⟨?_,by omega⟩
 rw [s,show (3689348814741910323:Int)=((3689348814741910323:Nat):Int) from rfl,a1,a2,e,← Int.natCast_add,wu (by omega)]
theorem ones3 (hx:x≤7378697629483820646):Qcb .u64 (IntKind.u64.wrap ((x:Int).fdiv (2 ^ min 4 64)+(x:Int))) 1085102592571150095=((st3 8 x:Nat):Int)∧st3 8 x≤1085102592571150095:=by
 have e:st3 8 x=(x / 16+x) &&& 1085102592571150095:=rfl
 have h1:=QtN (x / 16+x) 1085102592571150095
 have a1:=ands (a:=x / 16+x) (m:=1085102592571150095) (by omega) (by omega)
 have s:=QTE x 4 (by omega)
 rw [show 2 ^ 4=16 from rfl] at s
 refine ⟨?_,by omega⟩
 rw [s,← Int.natCast_add,wu (by omega),show (1085102592571150095:Int)=((1085102592571150095:Nat):Int) from rfl,a1,e]
theorem c_Ones (hT:Qf P tab) (x:Nat) (hx:x<18446744073709551616):Pure P G QaF [.int .u64 (x:Int)] fun v=>v=.int .i64 ((QD5 x:Nat):Int):=by
 intro t
 refine Qi 0 (Nat.zero_le _) (Qk hT Qaz (by simp [XH]) (Qg 1000 ?_))
 refine ya ?_
 obtain ⟨e1,b1⟩:=ones1 hx
 obtain ⟨e2,b2⟩:=ones2 b1
 rw [e1]
 obtain ⟨e3,b3⟩:=ones3 b2
 rw [e2,e3]
 have f1:=QTE (st3 8 (st2 8 (st1 8 x))) 8 (by omega)
 have d1:f8a (st3 8 (st2 8 (st1 8 x)))=st3 8 (st2 8 (st1 8 x))+st3 8 (st2 8 (st1 8 x)) / 256:=rfl
 rw [f1,← Int.natCast_add,wu (by omega),show 2 ^ 8=256 from rfl,← d1]
 have c1:f8a (st3 8 (st2 8 (st1 8 x)))≤1100000000000000000:=by omega
 generalize hA:f8a (st3 8 (st2 8 (st1 8 x)))=A at *
 have f2:=QTE A 16 (by omega)
 have d2:f8b A=A+A / 65536:=rfl
 rw [f2,← Int.natCast_add,wu (by omega),show 2 ^ 16=65536 from rfl,← d2]
 have c2:f8b A≤1200000000000000000:=by omega
 generalize hB:f8b A=B at *
 have f3:=QTE B 32 (by omega)
 have d3:f8c B=B+B / 4294967296:=rfl
 rw [f3,← Int.natCast_add,wu (by omega),show 2 ^ 32=4294967296 from rfl,← d3]
 have c3:f8c B≤1300000000000000000:=by omega
 have hs:QD5 x=f8c B % 128:=by rw [← hB,← hA]; rfl
 rw [hs,wrap_i64 (by omega) (by omega)]
 have a7:Qcb .i64 ((f8c B:Nat):Int) 127=((f8c B:Nat):Int) % 128:=QgC .i64 7 _ 127 rfl (by decide)
 rw [a7]
 simp
def deBr:List Int:=[0,1,56,2,57,49,28,3,61,58,42,50,38,29,17,4,62,47,59,36,45,43,51,22,53,39,33,30,24,18,12,5,63,55,48,27,60,41,37,16,46,35,44,21,52,32,23,11,54,26,40,15,34,20,31,10,25,14,19,9,13,8,7,6]
theorem QRq:∀ k,k<64→0≤(IntKind.u64.wrap (Qcb IntKind.u64 (((2 ^ k:Nat):Int)) (IntKind.u64.wrap (0 - (((2 ^ k:Nat):Int)))) * 285870213051353865)).fdiv (2 ^ min 58 64)∧deBr[((IntKind.u64.wrap (Qcb IntKind.u64 (((2 ^ k:Nat):Int)) (IntKind.u64.wrap (0 - (((2 ^ k:Nat):Int)))) * 285870213051353865)).fdiv (2 ^ min 58 64)).toNat]?=some ((k:Nat):Int):=by decide +kernel
theorem QS8 (hT:Qf P tab) (hG:G 5=some (QoH .u8 deBr)) (k:Nat) (hk:k<64):Pure P G Zn [.int .u64 ((2 ^ k:Nat):Int)] fun v=>v=.int .i64 ((k:Nat):Int):=by
 intro t
 refine Qi 0 (Nat.zero_le _) (Qk hT Zg (by simp [Xd]) (Qg 1000 ?_))
 obtain ⟨t1,t2⟩:=QRq k hk
 have hne:¬ ((2 ^ k:Nat):Int)=0:=by have:=Nat.two_pow_pos k; omega
 have hlen:deBr.length=64:=rfl
 generalize hp:((2 ^ k:Nat):Int)=p at *
 generalize he:(IntKind.u64.wrap (Qcb IntKind.u64 p (IntKind.u64.wrap (0 - p)) * 285870213051353865)).fdiv (2 ^ min 58 64)=e at *
 have hlt:=(List.getElem?_eq_some_iff.1 t2).1
 rw [hlen] at hlt
 have hg:(deBr.map (V.int .u8)).getD e.toNat .any=V.int .u8 ((k:Nat):Int):=by simp [List.getD_eq_getElem?_getD,t2]
 have hw:IntKind.i64.wrap ((k:Nat):Int)=((k:Nat):Int):=wrap_i64 (by omega) (by omega)
 simp -implicitDefEqProofs (disch:=omega) only [go_sem,↓reduceIte,reduceCtorEq,Nat.reduceEqDiff,Nat.reduceLeDiff,Int.reduceToNat,Int.reduceLE,hne,hG,QoH,he,List.length_map,hlen,hg,hw,t1,hlt]
 exact fun h=>h.elim
theorem QER {c:Int} {k:Nat} (hk:k<64) (h:IntKind.u64.wrap c=2 ^ k):Qk6 c=some k:=by
 cases hp:Qk6 c with
 | none =>
   unfold Qk6 at hp
   have:=List.find?_eq_none.1 hp k (by simpa using hk)
   simp [h] at this
 | some j =>
   obtain ⟨h1,h2⟩:=Qbt hp
   have h3:(2:Int) ^ k=2 ^ j:=h.symm.trans h2
   have h4:(2:Nat) ^ k=2 ^ j:=by exact_mod_cast h3
   rw [(Nat.pow_right_inj (by omega)).1 h4]
theorem QTd (hT:Qf P tab) (hG:G 5=some (QoH .u8 deBr)):Bits P G:=⟨fun c hc=>by
 intro t
 refine Qi 0 (Nat.zero_le _) (Qk hT QkA (by simp [QdP]) (Qg 1000 ?_))
 obtain ⟨u0,u1⟩:=QEp c
 obtain ⟨x,hx⟩:∃ x:Nat,IntKind.u64.wrap c=(x:Int):=⟨(IntKind.u64.wrap c).toNat,by omega⟩
 have hxl:x<18446744073709551616:=by omega
 have h1:=c_Ones (P:=P) (G:=G) hT x hxl
 refine yw ?_
 refine Qj hT Qaz h1 rfl 1000 ?_
 by_cases h:QD5 x=1
 ·obtain ⟨k,hk,rfl⟩:=QEv hxl h
  have hp:Qk6 c=some k:=QER hk (by rw [hx]; simp)
  have h':((QD5 (2 ^ k):Nat):Int)=1:=by omega
  rw [hp]
  simp -implicitDefEqProofs (disch:=omega) only [go_sem,↓reduceIte,reduceCtorEq,Nat.reduceEqDiff,hx,h']
  refine Qj hT Zg (QS8 hT hG k hk) rfl 1000 ?_
  exact yb
 ·have hp:Qk6 c=none:=by
   cases hp:Qk6 c with
   | none=>rfl
   | some k =>
     obtain ⟨h1,h2⟩:=Qbt hp
     have:x=2 ^ k:=by have h3:((x:Nat):Int)=2 ^ k:=hx.symm.trans h2; exact_mod_cast h3
     exact absurd (by rw [this]; exact QEu k h1) h
  have hn:¬ ((QD5 x:Nat):Int)=1:=by omega
  rw [hp]
  simp -implicitDefEqProofs (disch:=omega) only [go_sem,↓reduceIte,reduceCtorEq,Nat.reduceEqDiff,hx,hn]
  exact fun h=>h.elim⟩
end
end Go.Proofs.YtbdhjeojcpgblaaGreatDoor
