/- Numbers of literals: unlike, below, products, moved ones. Plain. -/
import Derived.Test.YtoeicjlflmmmcaaGreatDoorJ5
import Derived.Test.YtoeicjlflmmmcaaGreatDoorJ4
import Derived.Test.YtoeicjlflmmmcaaGreatDoorAmD
open Nat renaming reduceEqDiff → rq, reduceAdd → rA, reduceLeDiff → rL, reduceLT → rT, zero_add → zA, le_refl → lR, zero_le → zL, add_zero → aZ
open List renaming length_cons → lC, length_nil → lN, take_succ_cons → tSq, length_append → lA, nil_append → nA, cons_append → cA, append_assoc → aA, take_nil → tN, take_zero → tZ, length_map → lM
open Bool renaming not_false → nFq, not_true → nT
namespace Go.Proofs.YtoeicjlflmmmcaaGreatDoor
open Go Go.Am Go.Bl
set_option maxRecDepth 100000
variable {I:Int→Int→Bool}
set_option maxHeartbeats 1000000
def unT (x y:List Int) (s:St × Int) (k:Nat):St × Int :=
 let p:=Qd5 s.1 (gi x k) (gi y k)
 let q:=orS p.2 s.2 p.1
 (q.2,q.1)
def Qv (S:St) (x y:List Int):St × Int:=it (unT x y) 64 (S,-1)
theorem QkJ {x y:List Int} {S:St} {a b:Int} (h:Ok I S) (hx:Nb S.gs.length x) (hy:Nb S.gs.length y) (tx:Tl (mdl I S.gs) x a) (ty:Tl (mdl I S.gs) y b) :
 ∀ n,n≤64→Goes I (7 * n) (2 * n) S (it (unT x y) n (S,-1)).1∧lit (it (unT x y) n (S,-1)).1.gs.length (it (unT x y) n (S,-1)).2 ∧
   (lv (mdl I (it (unT x y) n (S,-1)).1.gs) (it (unT x y) n (S,-1)).2=false↔∀ k,k<n→Zc a k=Zc b k)
 | 0,_=>⟨Goes.refl h _ _,QC (YA h.wf),⟨fun _ k hk=>absurd hk (by omega),fun _=>h.wf.no⟩⟩
 | n+1,hn=>by
   obtain ⟨h1,h2,h3⟩:=QkJ h hx hy tx ty n (by omega)
   simp only [it]
   generalize it (unT x y) n (S,-1)=r at *
   obtain ⟨S1,o⟩:=r
   simp only at *
   obtain ⟨p1,p2,p3⟩:=Qjs h1.ok (h1.lit (hx.all n (by omega))) (h1.lit (hy.all n (by omega)))
   obtain ⟨q1,q2,q3⟩:=Qw3 p1.ok (p1.lit h2) p2
   refine ⟨((h1.trans p1).trans q1).more (by omega) (by omega),q2,?_⟩
   show lv (mdl I (orS _ _ _).2.gs) (orS _ _ _).1=false↔_
   rw [q3,p3,p1.lv h2,h1.lv (hx.all n (by omega)),h1.lv (hy.all n (by omega)),tx n (by omega),ty n (by omega),Bool.or_eq_false_iff,h3]
   constructor
   ·rintro ⟨e1,e2⟩ k hk
    rcases Nat.lt_or_ge k n with hk1 | hk1
    ·exact e1 k hk1
    ·have:k=n:=by omega
     subst this
     revert e2; cases Zc a k <;> cases Zc b k <;> simp
   ·intro e
    refine ⟨fun k hk=>e k (by omega),?_⟩
    rw [e n (by omega)]; cases Zc b n <;> rfl
theorem Qyt {a b:Int}:∀ n:Nat,(∀ k,k<n→Zc a k=Zc b k)→a % 2 ^ n=b % 2 ^ n
 | 0,_=>by simp [Int.emod_one]
 | n+1,h=>by
   have ih:=Qyt n fun k hk=>h k (by omega)
   have hn:=h n (by omega)
   have ha:=Qim a n
   have hb:=Qim b n
   rw [Z0,Z0,ih]
   unfold Zc at hn
   have:a / 2 ^ n % 2=b / 2 ^ n % 2:=by
    by_cases h1:a / 2 ^ n % 2=1
    ·rw [decide_eq_true h1] at hn; have:=of_decide_eq_true hn.symm; omega
    ·rw [decide_eq_false h1] at hn; have:=of_decide_eq_false hn.symm; omega
   rw [this]
variable {a b l:Int}
theorem QtF:(∀ k,k<64→Zc a k=Zc b k)↔cg a b :=
 ⟨fun h=>Qyt 64 h,fun h k hk=>Qhq h hk⟩
variable {S:St} {x y:List Int}
theorem QcZ (h:Ok I S) (hx:Nb S.gs.length x) (hy:Nb S.gs.length y) (tx:Tl (mdl I S.gs) x a) (ty:Tl (mdl I S.gs) y b) :
 Goes I 448 128 S (Qv S x y).1∧lit (Qv S x y).1.gs.length (Qv S x y).2∧(lv (mdl I (Qv S x y).1.gs) (Qv S x y).2=false↔cg a b):=by
 obtain ⟨h1,h2,h3⟩:=QkJ h hx hy tx ty 64 (by omega)
 exact ⟨h1,h2,h3.trans QtF⟩
def Qam (S:St) (x y:List Int):St × Int:=((Qeb S x (QlO y) 1).2.1,-(Qeb S x (QlO y) 1).2.2)
theorem QtI (h:Ok I S) (hx:Nb S.gs.length x) (hy:Nb S.gs.length y) (tx:Tl (mdl I S.gs) x a) (ty:Tl (mdl I S.gs) y b) :
 Goes I 1088 320 S (Qam S x y).1∧lit (Qam S x y).1.gs.length (Qam S x y).2∧lv (mdl I (Qam S x y).1.gs) (Qam S x y).2=decide (IntKind.u64.wrap a<IntKind.u64.wrap b):=by
 obtain ⟨h1,h2,h3,h4,h5⟩:=QoZ h hx (Qm6 hy) (YA h.wf) tx (Qxd hy ty) (c0:=1) (by rw [h.wf.yes]; rfl)
 refine ⟨h1,QC h4,?_⟩
 show lv (mdl I (Qeb S x (QlO y) 1).2.1.gs) (-(Qeb S x (QlO y) 1).2.2)=_
 rw [Yk h4.1,h5]
 unfold car
 rw [show (2:Int) ^ 64=18446744073709551616 from rfl,QbM,QbM]
 by_cases hlt:a % 18446744073709551616<b % 18446744073709551616
 ·rw [decide_eq_true hlt,decide_eq_false (by omega)]; rfl
 ·rw [decide_eq_false hlt,decide_eq_true (by omega)]; rfl
def Qir (x:List Int) (l:Int) (k:Nat) (s:St) (i:Nat):Int × St:=if i<k then (-1,s) else Qd3 s (gi x (i - k)) l
def QtW (S:St) (x:List Int) (l:Int) (k:Nat):List Int × St:=fo (Qir x l k) 64 S
theorem QsU {x:List Int} {S:St} {l a:Int} {k:Nat} (h:Ok I S) (hx:Nb S.gs.length x) (hl:lit S.gs.length l) (tx:Tl (mdl I S.gs) x a) :
 ∀ n,n≤64→Goes I (3 * n) n S (fo (Qir x l k) n S).2∧∀ i,i<n→lit (fo (Qir x l k) n S).2.gs.length (gi (fo (Qir x l k) n S).1 i) ∧
   lv (mdl I (fo (Qir x l k) n S).2.gs) (gi (fo (Qir x l k) n S).1 i)=(lv (mdl I S.gs) l&&Zc (a * 2 ^ k) i)
 | 0,_=>⟨Goes.refl h _ _,fun k hk=>absurd hk (by omega)⟩
 | n+1,hn=>by
   obtain ⟨h1,h4⟩:=QsU (k:=k) h hx hl tx n (by omega)
   have hlen:=Y5 (step:=Qir x l k) (s:=S) n
   simp only [fo]
   generalize fo (Qir x l k) n S=r at *
   obtain ⟨zs,S1⟩:=r
   simp only at *
   have hstep:Goes I 3 1 S1 (Qir x l k S1 n).2∧lit (Qir x l k S1 n).2.gs.length (Qir x l k S1 n).1∧lv (mdl I (Qir x l k S1 n).2.gs) (Qir x l k S1 n).1=(lv (mdl I S.gs) l&&Zc (a * 2 ^ k) n):=by
    unfold Qir
    by_cases hk:n<k
    ·rw [if_pos hk]
     refine ⟨Goes.refl h1.ok _ _,QC (YA h1.ok.wf),?_⟩
     show lv (mdl I S1.gs) (-1)=_
     rw [h1.ok.wf.no]
     unfold Zc
     rw [QtG,if_pos hk]
     simp
    ·rw [if_neg hk]
     have hn':=hx.all (n - k) (by omega)
     obtain ⟨a1,a2,a3⟩:=Qdp h1.ok (h1.lit hn') (h1.lit hl)
     refine ⟨a1,a2,?_⟩
     rw [a3,h1.lv hn',h1.lv hl,tx (n - k) (by omega)]
     have e:Zc (a * 2 ^ k) n=Zc a (n - k):=by unfold Zc; rw [QtG,if_neg hk]
     rw [e,Bool.and_comm]
   obtain ⟨s1,s2,s3⟩:=hstep
   refine ⟨(h1.trans s1).more (by omega) (by omega),fun i hi=>?_⟩
   rcases Nat.lt_or_ge i n with hk1 | hk1
   ·obtain ⟨e1,e2⟩:=h4 i hk1
    rw [QxQ (by omega)]
    exact ⟨s1.lit e1,by rw [s1.lv e1,e2]⟩
   ·have:i=n:=by omega
    subst this
    have e:gi (zs++[(Qir x l k S1 i).1]) i=(Qir x l k S1 i).1:=by
     have:=QxP (x:=zs) (a:=(Qir x l k S1 i).1)
     rwa [hlen] at this
    rw [e]
    exact ⟨s2,s3⟩
def QuN (x y:List Int) (s:St × List Int) (k:Nat):St × List Int :=
 if gi y k=-1 then s else ((Qeb (QtW s.1 x (gi y k) k).2 s.2 (QtW s.1 x (gi y k) k).1 (-1)).2.1,(Qeb (QtW s.1 x (gi y k) k).2 s.2 (QtW s.1 x (gi y k) k).1 (-1)).1)
def Qri (S:St) (x y:List Int):St × List Int:=it (QuN x y) 64 (S,Qdq 0)
theorem QlE (k:Nat):Zc 0 k=false:=by unfold Zc; simp
theorem Qxn {x y:List Int} {S:St} {a b:Int} (h:Ok I S) (hx:Nb S.gs.length x) (hy:Nb S.gs.length y) (tx:Tl (mdl I S.gs) x a) (ty:Tl (mdl I S.gs) y b) :
 ∀ n,n≤64→Goes I (1280 * n) (384 * n) S (it (QuN x y) n (S,Qdq 0)).1∧Nb (it (QuN x y) n (S,Qdq 0)).1.gs.length (it (QuN x y) n (S,Qdq 0)).2 ∧
   Tl (mdl I (it (QuN x y) n (S,Qdq 0)).1.gs) (it (QuN x y) n (S,Qdq 0)).2 (a * (b % 2 ^ n))
 | 0,_=>⟨Goes.refl h _ _,QiE h.wf 0,by
  have:=Qm5 (I:=I) h.wf 0
  rw [show a * (b % 2 ^ 0)=0 by simp [Int.emod_one]]
  exact this⟩
 | n+1,hn=>by
   obtain ⟨h1,h2,h3⟩:=Qxn h hx hy tx ty n (by omega)
   simp only [it]
   generalize it (QuN x y) n (S,Qdq 0)=r at *
   obtain ⟨S1,o⟩:=r
   simp only at *
   have hyn:=hy.all n (by omega)
   have tyn:=ty n (by omega)
   have bb:=Qim b n
   unfold QuN
   by_cases hz:gi y n=-1
   ·rw [if_pos hz]
    refine ⟨h1.more (by omega) (by omega),h2,?_⟩
    rw [hz,h.wf.no] at tyn
    have hb0:¬ b / 2 ^ n % 2=1:=of_decide_eq_false tyn.symm
    rw [QzK hb0]
    exact h3
   ·rw [if_neg hz]
    simp only
    obtain ⟨r1,r2⟩:=QsU (k:=n) h1.ok (hx.goes h1) (h1.lit hyn) (tx.goes hx h1) 64 (by omega)
    have hlen:=Y5 (step:=Qir x (gi y n) n) (s:=S1) 64
    unfold QtW
    generalize fo (Qir x (gi y n) n) 64 S1=rr at *
    obtain ⟨row,S2⟩:=rr
    simp only at *
    have nr:Nb S2.gs.length row:=⟨hlen,fun k hk=>(r2 k hk).1⟩
    have tr:Tl (mdl I S2.gs) row (a * (2 ^ n * (b / 2 ^ n % 2))):=by
     intro k hk
     rw [(r2 k hk).2,h1.lv hyn,tyn]
     unfold Zc
     rcases (show b / 2 ^ n % 2=0∨b / 2 ^ n % 2=1 by omega) with hb | hb
     ·rw [hb]; simp
     ·rw [hb]; simp
    obtain ⟨s1,s2,s3,s4,s5⟩:=QoZ r1.ok (h2.goes r1) nr (QC (YA r1.ok.wf)) (h3.goes h2 r1) tr (c0:=0) (by rw [r1.ok.wf.no]; rfl)
    refine ⟨((h1.trans r1).trans s1).more (by omega) (by omega),s2,?_⟩
    rw [Z0,Int.mul_add]
    rw [Int.add_zero] at s3
    exact s3
theorem Qxo (h:Ok I S) (hx:Nb S.gs.length x) (hy:Nb S.gs.length y) (tx:Tl (mdl I S.gs) x a) (ty:Tl (mdl I S.gs) y b) :
 Goes I 81920 24576 S (Qri S x y).1∧Nb (Qri S x y).1.gs.length (Qri S x y).2∧Tl (mdl I (Qri S x y).1.gs) (Qri S x y).2 (a * b):=by
 obtain ⟨h1,h2,h3⟩:=Qxn h hx hy tx ty 64 (by omega)
 refine ⟨h1,h2,h3.cg ?_⟩
 refine cg.mul (cg.refl a) ?_
 show b % 18446744073709551616 % 18446744073709551616=_
 omega
def Qml (l:Int):List Int:=(Qdq 0).set 0 l
variable {k n:Nat}
theorem Qtm {i:Nat} (h:k<x.length):gi (x.set i l) k=if i=k then l else gi x k:=by
 rw [gi,gi,List.getD_eq_getElem?_getD,List.getD_eq_getElem?_getD,List.getElem?_set]
 split
 ·rename_i e; subst e; rw [if_pos h]; rfl
 ·rfl
variable {gs:List Gt}
theorem Qw9 (h:Wf gs) (hl:lit gs.length l):Nb gs.length (Qml l) :=
 ⟨by simp [Qml,Qdq],fun k hk=>by rw [Qml,Qtm (by simp [Qdq]; omega)]; split; exact hl; exact (QiE h 0).all k hk⟩
theorem Qw7 (h:Wf gs):Tl (mdl I gs) (Qml l) (if lv (mdl I gs) l=true then 1 else 0):=fun k hk=>by
 rw [Qml,Qtm (by simp [Qdq]; omega)]
 split
 ·rename_i e; subst e
  cases lv (mdl I gs) l <;> rfl
 ·rename_i e
  rw [Qm5 h 0 k hk,QlE]
  split
  ·unfold Zc
   have:(1:Int) / 2 ^ k=0:=Int.ediv_eq_zero_of_lt (by omega) (by
    rw [show k=(k - 1)+1 by omega,Int.pow_succ]
    have:=Ya (k - 1); omega)
   rw [this]; rfl
  ·exact (QlE k).symm
def sgL (x:List Int):List Int:=x.set 63 (-gi x 63)
theorem Qzu (h:Nb n x):Nb n (sgL x):=⟨by simp [sgL,h.len],fun k hk=>by
 rw [sgL,Qtm (by rw [h.len]; exact hk)]; split; exact QC (h.all 63 (by omega)); exact h.all k hk⟩
theorem QMm (a:Int) (hk:k<64):Zc (a+9223372036854775808) k=if 63=k then !Zc a 63 else Zc a k:=by
 unfold Zc
 split
 ·rename_i e; subst e
  rw [show (2:Int) ^ 63=9223372036854775808 from rfl]
  by_cases h1:a / 9223372036854775808 % 2=1
  ·rw [decide_eq_true h1,decide_eq_false (by omega)]; rfl
  ·rw [decide_eq_false h1,decide_eq_true (by omega)]; rfl
 ·rename_i e
  have hp:=Ya k
  have e2:(9223372036854775808:Int)=2 ^ k * (2 * 2 ^ (62 - k)):=by
   rw [show (9223372036854775808:Int)=2 ^ 63 from rfl,show (63:Nat)=k+((62 - k)+1) by omega,Int.pow_add,Int.pow_succ,Int.mul_comm (2 ^ (62 - k)) 2]
  rw [e2,Int.add_mul_ediv_left _ _ (by omega),Int.add_mul_emod_self_left]
theorem sg_tl {M:List Bool} (h:Nb n x) (t:Tl M x a):Tl M (sgL x) (a+9223372036854775808):=fun k hk=>by
 rw [sgL,Qtm (by rw [h.len]; exact hk),QMm a hk]
 split
 ·rename_i e
  rw [Yk (h.all 63 (by omega)).1,t 63 (by omega)]
 ·exact t k hk
end Go.Proofs.YtoeicjlflmmmcaaGreatDoor
namespace Go.Proofs.YtoeicjlflmmmcaaGreatDoor
open Go Go.Am Go.Bl
set_option maxRecDepth 100000
variable {P:Program} {G:Nat→Option V}
set_option maxHeartbeats 1000000
section
attribute [local go_sem] nFq lR Nat.mul_one zA zL beq_self_eq_true QfA QDV QDU QDT QDS QDR QDQ QDP Qbn zqu_0 zqu_1 zqu_2 zqu_3 zqu_4 zqu_5 zqu_6 zqu_7 zqu_8 decide_false decide_true Q3
def zs (l:List Int):List V:=Qb l++List.replicate (64 - l.length) (.int .i64 0)
theorem zs_0:(List.replicate 64 [V.int .i64 0]).flatten=zs []:=by
 simp [zs,Qb]
variable {l x:List Int}
theorem QeC (h:l.length≤64):(zs l).length=64:=by
 simp [zs,Qb]; omega
theorem QmH (h:l.length=64):zs l=Qb l:=by simp [zs,h]
variable {k:Nat}
theorem Qr8 (hl:l.length=k) (h:k<64):List.take k (zs l)=Qb l∧List.drop (k+1) (zs l)=List.replicate (63 - k) (.int .i64 0):=by
 subst hl
 unfold zs
 constructor
 ·rw [List.take_append_of_le_length (by simp [Qb]),List.take_of_length_le (by simp [Qb])]
 ·rw [List.drop_append,List.drop_eq_nil_of_le (by simp [Qb]),nA,Qi,show l.length+1 - l.length=1 by omega,List.drop_replicate]
  congr 1; omega
theorem QnN {v:Int} (hl:l.length=k) (h:k<64):List.take k (zs l)++[.int .i64 v]++List.drop (k+1) (zs l)=zs (l++[v]):=by
 rw [(Qr8 hl h).1,(Qr8 hl h).2,zs]
 simp [Qb]
 omega
theorem QIO {u v:Int} (hl:l.length=k) (h:k<64):List.take k (zs (l++[u]))++[.int .i64 v]++List.drop (k+1) (zs (l++[u]))=zs (l++[v]):=by
 subst hl
 rw [← QnN (v:=v) rfl h]
 have e1:List.take l.length (zs (l++[u]))=Qb l:=by
  unfold zs Qb
  rw [List.map_append,aA,List.take_append_of_le_length (by simp),List.take_of_length_le (by simp)]
 have e2:List.drop (l.length+1) (zs (l++[u]))=List.replicate (63 - l.length) (.int .i64 0):=by
  unfold zs
  rw [List.drop_append,List.drop_eq_nil_of_le (by simp [Qb]),nA]
  simp [Qb]
 rw [e1,e2,(Qr8 rfl h).1,(Qr8 rfl h).2]
theorem w_k (h:k<64):IntKind.i64.wrap ((k:Int)+1)=((k+1:Nat):Int):=by
 rw [wrap_i64 (by omega) (by omega)]; omega
theorem QwN (h:k<l.length):l.take (k+1)=l.take k++[gi l k]:=by
 rw [List.take_add_one,QLD h]; rfl
theorem QH5 (h:k<x.length):(Qb x).getD k V.any=.int .i64 (gi x k):=by
 rw [List.getD_eq_getElem?_getD,Qb,List.getElem?_map,QLD h]; rfl
theorem Qx (h:x.length=64):List.take 64 (Qb x)=Qb x:=List.take_of_length_le (by rw [Qi]; omega)
theorem Zt (h:x.length=64):List.drop 64 (Qb x)=[]:=List.drop_eq_nil_of_le (by rw [Qi]; omega)
theorem Xl (x:List Int):ones (Qb x):=fun c hc=>by
 obtain ⟨u,-,rfl⟩:=List.mem_map.1 hc
 rfl
theorem QG (h:x.length=64):(Qb x).length=64:=by rw [Qi,h]
theorem Qik (hT:Qe P tab) (a:Int):Pure P G QgL [.int .i64 a] fun v=>v=.agg (Qb (Qdq a)):=by
 intro t
 refine Qj 0 (zL _) (Qo hT Zq (by simp [Qbn]) (Qm 1000 ?_))
 simp -implicitDefEqProofs (disch:=omega) only [go_sem,↓reduceIte,reduceCtorEq,rq,lN,nA,cA,and_true]
 refine XQ 64 (fun k fr σ=>∃ l z t',t≤t'∧l=(Qdq a).take k∧σ=⟨t',[some (.arr z 85 (zs l))]⟩∧Qd fr 0=.int .i64 a∧Qd fr 2=.ptr 0 z 0∧Qd fr 4=.int .i64 ((k:Nat):Int))
  (fun e fr σ=>e=.ex 0∧∃ z t',t≤t'∧σ=⟨t',[some (.arr z 85 (Qb (Qdq a)))]⟩∧Qd fr 2=.ptr 0 z 0) ⟨[],t,t+1,by omega,by rfl,by rfl,by simp -implicitDefEqProofs (disch:=omega) only [go_sem,↓reduceIte],by simp -implicitDefEqProofs (disch:=omega) only [go_sem,↓reduceIte,reduceCtorEq],by simp -implicitDefEqProofs (disch:=omega) only [go_sem,↓reduceIte,reduceCtorEq,rq]; rfl⟩ (fun k hk fr σ hJ=>?_) (fun k hk fr σ hJ=>?_) (fun e fr σ hE=>?_)
 ·obtain ⟨l,z,t',ht,hl,rfl,f0,f2,f4⟩:=hJ
  have hki:(k:Int)<64:=by omega
  have hk0:(0:Int)≤(k:Int):=by omega
  have hlk:l.length=k:=by rw [hl]; simp [Qdq]; omega
  have hz:(zs l).length=64:=QeC (by omega)
  have p1:=QnN (v:=-1) hlk hk
  have p2:=QIO (u:=-1) (v:=1) hlk hk
  have hz1:(zs (l++[-1])).length=64:=QeC (by simp; omega)
  have hb:QkC .i64 (a.fdiv (2 ^ min k 64)) 1=a / 2 ^ k % 2:=by
   rw [Nat.min_eq_left (by omega),Int.fdiv_eq_ediv_of_nonneg _ (Int.le_of_lt (Ya k))]
   exact Qr7 .i64 1 _ 1 rfl (by decide)
  have hw:=w_k hk
  have hn:l++[if Zc a k=true then 1 else -1]=(Qdq a).take (k+1):=by rw [QwN (by simp [Qdq]; omega),QxO a hk,hl]
  unfold Zc at hn
  refine Qh [(0,.int .i64 a),(2,.ptr 0 z 0),(4,.int .i64 ((k:Nat):Int))] ⟨f0,f2,f4,trivial⟩  1000 ?_
  by_cases hbit:a / 2 ^ k % 2=1
  ·rw [decide_eq_true hbit,if_pos rfl] at hn
   simp -implicitDefEqProofs (disch:=omega) only [go_sem,↓reduceIte,reduceCtorEq,rq,rL,hki,hk0,hz,Int.toNat_natCast,p1,p2,hz1,hb,hbit,hw,lC,lN,true_and,and_true]
   refine ⟨_,_,Shift.refl _ _ _ _,_,z,t',ht,hn,rfl,?_⟩
   simp -implicitDefEqProofs (disch:=omega) only [go_sem,↓reduceIte,reduceCtorEq,rq]
  ·rw [decide_eq_false hbit,if_neg (by decide)] at hn
   simp -implicitDefEqProofs (disch:=omega) only [go_sem,↓reduceIte,reduceCtorEq,rq,rL,hki,hk0,hz,Int.toNat_natCast,p1,p2,hz1,hb,hbit,hw,lC,lN,false_implies,true_implies,true_and,and_true]
   refine ⟨_,_,Shift.refl _ _ _ _,_,z,t',ht,hn,rfl,?_⟩
   simp -implicitDefEqProofs (disch:=omega) only [go_sem,↓reduceIte,reduceCtorEq,rq]
 ·obtain ⟨l,z,t',ht,hl,rfl,f0,f2,f4⟩:=hJ
  have hki:¬ (k:Int)<64:=by omega
  have hlk:l=Qdq a:=by rw [hl,hk,List.take_of_length_le (by simp [Qdq])]
  rw [hlk,QmH (by simp [Qdq])]
  refine Qh [(0,.int .i64 a),(2,.ptr 0 z 0),(4,.int .i64 ((k:Nat):Int))] ⟨f0,f2,f4,trivial⟩  1000 ?_
  simp -implicitDefEqProofs (disch:=omega) only [go_sem,↓reduceIte,reduceCtorEq,rq,hki]
  exact ⟨z,t',ht,⟨rfl,rfl⟩,by simp -implicitDefEqProofs (disch:=omega) only [go_sem]⟩
 ·obtain ⟨rfl,z,t',ht,rfl,f2⟩:=hE
  refine Qg 1000 ?_
  have hl:(Qdq a).length=64:=by simp [Qdq]
  simp -implicitDefEqProofs (disch:=omega) only [go_sem,↓reduceIte,reduceCtorEq,rq,f2,QG hl,Qx hl,Zt hl,Xl,QL,List.append_nil]
def mx (x:List Int) (f:Int→Int) (k:Nat):List Int:=(x.take k).map f++x.drop k
theorem mx_len (x:List Int) (f:Int→Int) (k:Nat):(mx x f k).length=x.length:=by simp [mx]; omega
variable {f:Int→Int}
theorem mx_get (h:k<x.length):(Qb (mx x f k)).getD k V.any=.int .i64 (gi x k):=by
 rw [List.getD_eq_getElem?_getD,Qb,List.getElem?_map,mx,List.getElem?_append_right (by simp; omega)]
 simp only [lM,List.length_take,List.getElem?_drop]
 rw [show k+(k - min k x.length)=k by omega,QLD h]; rfl
theorem mx_put (h:k<x.length):List.take k (Qb (mx x f k))++[.int .i64 (f (gi x k))]++List.drop (k+1) (Qb (mx x f k))=Qb (mx x f (k+1)):=by
 unfold mx
 rw [QwN h]
 unfold Qb
 rw [List.map_append,List.take_append_of_le_length (by simp; omega),List.take_of_length_le (by simp; omega),List.drop_append,List.drop_eq_nil_of_le (by simp; omega),nA]
 simp only [lM,List.length_take,List.map_append,List.map_cons,List.map_nil,← List.map_drop,List.drop_drop]
 rw [show k+(k+1 - min k x.length)=k+1 by omega]
theorem c_not (hT:Qe P tab) (hx:x.length=64) (hs:∀ k,k<64→-1000000000≤gi x k∧gi x k≤1000000000):Pure P G Qk9 [.agg (Qb x)] fun v=>v=.agg (Qb (QlO x)):=by
 intro t
 refine Qj 0 (zL _) (Qo hT Qdu (by simp [QfA]) (Qm 1000 ?_))
 simp -implicitDefEqProofs (disch:=omega) only [go_sem,↓reduceIte,reduceCtorEq,rq,lC,lN,nA,cA,and_true,Xl]
 refine XQ 64 (fun k fr σ=>∃ w z t',t≤t'∧σ=⟨t',[some (.arr w 85 (Qb (mx x (fun l=>-l) k))),some (.arr z 85 (zs []))]⟩∧Qd fr 1=.ptr 0 w 0∧Qd fr 2=.ptr 1 z 0∧Qd fr 4=.int .i64 ((k:Nat):Int))
  (fun e fr σ=>e=.ex 0∧∃ w z t',t≤t'∧σ=⟨t',[some (.arr w 85 (Qb (QlO x))),some (.arr z 85 (zs []))]⟩∧Qd fr 1=.ptr 0 w 0∧Qd fr 2=.ptr 1 z 0) ⟨t,t+1,t+1+1,by omega,?_,by simp -implicitDefEqProofs (disch:=omega) only [go_sem,↓reduceIte,reduceCtorEq],by simp -implicitDefEqProofs (disch:=omega) only [go_sem,↓reduceIte,reduceCtorEq,rq],by simp -implicitDefEqProofs (disch:=omega) only [go_sem,↓reduceIte,reduceCtorEq,rq]; rfl⟩ (fun k hk fr σ hJ=>?_) (fun k hk fr σ hJ=>?_) (fun e fr σ hE=>?_)
 ·rw [← zs_0]
  simp [mx]
 ·obtain ⟨w,z,t',ht,rfl,f1,f2,f4⟩:=hJ
  have hki:(k:Int)<64:=by omega
  have hk0:(0:Int)≤(k:Int):=by omega
  have hn:(Qb (mx x (fun l=>-l) k)).length=64:=by rw [Qi,mx_len,hx]
  have hg:=mx_get (x:=x) (f:=fun l=>-l) (k:=k) (by omega)
  have hp:=mx_put (x:=x) (f:=fun l=>-l) (k:=k) (by omega)
  have hv:IntKind.i64.wrap (0 - gi x k)=-gi x k:=by rw [wrap_i64 (by have:=hs k hk; omega) (by have:=hs k hk; omega)]; omega
  have hw:=w_k hk
  refine Qh [(1,.ptr 0 w 0),(2,.ptr 1 z 0),(4,.int .i64 ((k:Nat):Int))] ⟨f1,f2,f4,trivial⟩  1000 ?_
  simp -implicitDefEqProofs (disch:=omega) only [go_sem,↓reduceIte,rq,rL,hki,hk0,hn,Int.toNat_natCast,hg,hp,hv,hw,lC,lN,true_implies,true_and,and_true]
  refine ⟨_,_,Shift.refl _ _ _ _,w,z,t',ht,rfl,?_⟩
  simp -implicitDefEqProofs (disch:=omega) only [go_sem,↓reduceIte,rq]
 ·obtain ⟨w,z,t',ht,rfl,f1,f2,f4⟩:=hJ
  have hki:¬ (k:Int)<64:=by omega
  have hlk:mx x (fun l=>-l) k=QlO x:=by rw [mx,hk,List.take_of_length_le (by omega),List.drop_eq_nil_of_le (by omega),List.append_nil]; rfl
  rw [hlk]
  refine Qh [(1,.ptr 0 w 0),(2,.ptr 1 z 0),(4,.int .i64 ((k:Nat):Int))] ⟨f1,f2,f4,trivial⟩  1000 ?_
  simp -implicitDefEqProofs (disch:=omega) only [go_sem,↓reduceIte,rq,hki]
  exact ⟨w,z,t',ht,⟨rfl,rfl⟩,by simp -implicitDefEqProofs (disch:=omega) only [go_sem],by simp -implicitDefEqProofs (disch:=omega) only [go_sem]⟩
 ·obtain ⟨rfl,w,z,t',ht,rfl,f1,f2⟩:=hE
  refine Qg 1000 ?_
  have hl:(QlO x).length=64:=by simp [QlO,hx]
  have hz:(zs []).length=64:=QeC (by simp)
  have hd:List.drop 64 (zs [])=[]:=List.drop_eq_nil_of_le (by rw [hz]; omega)
  simp -implicitDefEqProofs (disch:=omega) only [go_sem,↓reduceIte,reduceCtorEq,rA,rq,f1,f2,QG hl,Qx hl,Xl,QL,List.append_nil,hz,hd]
end
end Go.Proofs.YtoeicjlflmmmcaaGreatDoor
namespace Go.Proofs.YtoeicjlflmmmcaaGreatDoor
open Go Go.Am Go.Bl
set_option maxRecDepth 100000
variable {I:Int→Int→Bool}
set_option maxHeartbeats 1000000
theorem QxW {step:St→Nat→Int × St} {v:Nat→Bool} {S:St} {c g:Nat} (h:Ok I S)
 (hs:∀ n,n<64→∀ S1,Ok I S1→S.gs <+: S1.gs→Goes I c g S1 (step S1 n).2∧lit (step S1 n).2.gs.length (step S1 n).1∧lv (mdl I (step S1 n).2.gs) (step S1 n).1=v n) :
 ∀ n,n≤64→Goes I (c * n) (g * n) S (fo step n S).2∧∀ i,i<n→lit (fo step n S).2.gs.length (gi (fo step n S).1 i)∧lv (mdl I (fo step n S).2.gs) (gi (fo step n S).1 i)=v i
 | 0,_=>⟨Goes.refl h _ _,fun k hk=>absurd hk (by omega)⟩
 | n+1,hn=>by
   obtain ⟨h1,h4⟩:=QxW h hs n (by omega)
   have hlen:=Y5 (step:=step) (s:=S) n
   simp only [fo]
   generalize fo step n S=r at *
   obtain ⟨zs,S1⟩:=r
   simp only at *
   obtain ⟨s1,s2,s3⟩:=hs n (by omega) S1 h1.ok h1.pre
   refine ⟨(h1.trans s1).more (by rw [Nat.mul_succ]; omega) (by rw [Nat.mul_succ]; omega),fun i hi=>?_⟩
   rcases Nat.lt_or_ge i n with hk1 | hk1
   ·obtain ⟨e1,e2⟩:=h4 i hk1
    rw [QxQ (by omega)]
    exact ⟨s1.lit e1,by rw [s1.lv e1,e2]⟩
   ·have:i=n:=by omega
    subst this
    have e:gi (zs++[(step S1 i).1]) i=(step S1 i).1:=by
     have:=QxP (x:=zs) (a:=(step S1 i).1)
     rwa [hlen] at this
    rw [e]
    exact ⟨s2,s3⟩
variable {c g k far:Nat} {S:St}
theorem QxX {step:St→Nat→Int × St} {v:Nat→Bool} (h:Ok I S)
 (hs:∀ n,n<64→∀ S1,Ok I S1→S.gs <+: S1.gs→Goes I c g S1 (step S1 n).2∧lit (step S1 n).2.gs.length (step S1 n).1∧lv (mdl I (step S1 n).2.gs) (step S1 n).1=v n) :
 Goes I (c * 64) (g * 64) S (fo step 64 S).2∧Nb (fo step 64 S).2.gs.length (fo step 64 S).1∧∀ k,k<64→lv (mdl I (fo step 64 S).2.gs) (gi (fo step 64 S).1 k)=v k:=by
 obtain ⟨h1,h2⟩:=QxW h hs 64 (by omega)
 exact ⟨h1,⟨Y5 64,fun k hk=>(h2 k hk).1⟩,fun k hk=>(h2 k hk).2⟩
def QaU (f:St→Int→Int→Int × St) (S:St) (x y:List Int):List Int × St:=fo (fun s k=>f s (gi x k) (gi y k)) 64 S
variable {b fill:Int} {x:List Int}
theorem QrB {f:St→Int→Int→Int × St} {v:Bool→Bool→Bool} (hf:∀ {S:St},Ok I S→∀ {x y:Int},lit S.gs.length x→lit S.gs.length y→Goes I c g S (f S x y).2∧lit (f S x y).2.gs.length (f S x y).1∧lv (mdl I (f S x y).2.gs) (f S x y).1=v (lv (mdl I S.gs) x) (lv (mdl I S.gs) y))
 {y:List Int} {a:Int} (h:Ok I S) (hx:Nb S.gs.length x) (hy:Nb S.gs.length y) (tx:Tl (mdl I S.gs) x a) (ty:Tl (mdl I S.gs) y b) {r:Int} (hr:∀ k,k<64→Zc r k=v (Zc a k) (Zc b k)) :
 Goes I (c * 64) (g * 64) S (QaU f S x y).2∧Nb (QaU f S x y).2.gs.length (QaU f S x y).1∧Tl (mdl I (QaU f S x y).2.gs) (QaU f S x y).1 r:=by
 refine QxX (v:=fun k=>Zc r k) h fun n hn S1 h1 hp=>?_
 obtain ⟨f1,f2,f3⟩:=hf h1 (Zu hp (hx.all n hn)) (Zu hp (hy.all n hn))
 refine ⟨f1,f2,?_⟩
 rw [f3,ZO hp (hx.all n hn),ZO hp (hy.all n hn),tx n hn,ty n hn,hr n hn]
theorem QfZ (n k:Nat):Zc (n:Int) k=n.testBit k:=by
 unfold Zc
 rw [Nat.testBit_eq_decide_div_mod_eq,← QfP]
 congr 1
 rw [← Int.natCast_ediv]
 apply propext
 omega
theorem Qji (a:Int) (hk:k<64):(BitVec.ofInt 64 a).toNat.testBit k=Zc a k:=by
 rw [← QfZ,BitVec.toNat_ofInt]
 refine Qhq ?_ hk
 unfold cg
 have:(0:Int)≤a % 2 ^ 64:=Int.emod_nonneg _ (by decide)
 rw [show ((2 ^ 64:Nat):Int)=18446744073709551616 from rfl]
 omega
theorem QMo (a b:Int) (hk:k<64):Zc (QkC .i64 a b) k=(Zc a k&&Zc b k):=by
 have e:QkC .i64 a b=IntKind.i64.wrap (((BitVec.ofInt 64 a &&& BitVec.ofInt 64 b).toNat:Nat):Int):=rfl
 rw [e,Qhq (Qnz _) hk,QfZ,BitVec.toNat_and,Nat.testBit_and,Qji a hk,Qji b hk]
theorem QIF (a b:Int) (hk:k<64):Zc (orI .i64 a b) k=(Zc a k || Zc b k):=by
 have e:orI .i64 a b=IntKind.i64.wrap (((BitVec.ofInt 64 a ||| BitVec.ofInt 64 b).toNat:Nat):Int):=rfl
 rw [e,Qhq (Qnz _) hk,QfZ,BitVec.toNat_or,Nat.testBit_or,Qji a hk,Qji b hk]
theorem QMk (a b:Int) (hk:k<64):Zc (QHP .i64 a b) k=(Zc a k != Zc b k):=by
 have e:QHP .i64 a b=IntKind.i64.wrap (((BitVec.ofInt 64 a ^^^ BitVec.ofInt 64 b).toNat:Nat):Int):=rfl
 rw [e,Qhq (Qnz _) hk,QfZ,BitVec.toNat_xor,Nat.testBit_xor,Qji a hk,Qji b hk]
theorem bits_nat (f:Nat→Bool):∀ n:Nat,∃ a:Nat,a<2 ^ n∧∀ k,k<n→a.testBit k=f k
 | 0=>⟨0,by simp,fun k hk=>absurd hk (by omega)⟩
 | n+1=>by
   obtain ⟨a,ha,h⟩:=bits_nat f n
   refine ⟨2 ^ n * (f n).toNat+a,?_,fun k hk=>?_⟩
   ·rw [Nat.pow_succ]
    cases f n <;> simp <;> omega
   ·rw [Nat.testBit_two_pow_mul_add _ ha]
    split
    ·rename_i h1; exact h k h1
    ·have:k=n:=by omega
     subst this
     rw [Nat.sub_self]
     cases f k <;> rfl
theorem ZB (M:List Bool) (x:List Int):∃ a,Tl M x a:=by
 obtain ⟨a,-,h⟩:=bits_nat (fun k=>lv M (gi x k)) 64
 exact ⟨(a:Int),fun k hk=>by rw [QfZ,h k hk]⟩
def src (x:List Int) (up:Bool) (fill:Int) (far k:Nat):Int:=if up=true then (if far≤k then gi x (k - far) else fill) else if k+far<64 then gi x (k+far) else fill
def Qiv (up:Bool) (fill c:Int) (far:Nat) (s:St × List Int):St × List Int :=
 ((fo (fun t k=>QcM t c (src s.2 up fill far k) (gi s.2 k)) 64 s.1).2,(fo (fun t k=>QcM t c (src s.2 up fill far k) (gi s.2 k)) 64 s.1).1)
def Qpb (S:St) (x y:List Int) (up:Bool) (fill:Int):St × List Int:=it (fun s i=>Qiv up fill (gi y i) (2 ^ i) s) 6 (S,x)
theorem QkY {n:Nat} {up:Bool} (h:Nb n x) (hf:lit n fill) (hk:k<64):lit n (src x up fill far k):=by
 unfold src
 split
 ·split
  ·exact h.all _ (by omega)
  ·exact hf
 ·split
  ·exact h.all _ (by omega)
  ·exact hf
theorem Qnc {up:Bool} {c:Int} (h:Ok I S) (hx:Nb S.gs.length x) (hf:lit S.gs.length fill) (hc:lit S.gs.length c) :
 Goes I 576 192 S (Qiv up fill c far (S,x)).1∧Nb (Qiv up fill c far (S,x)).1.gs.length (Qiv up fill c far (S,x)).2 ∧
 ∀ k,k<64→lv (mdl I (Qiv up fill c far (S,x)).1.gs) (gi (Qiv up fill c far (S,x)).2 k)=if lv (mdl I S.gs) c=true then lv (mdl I S.gs) (src x up fill far k) else lv (mdl I S.gs) (gi x k):=by
 refine QxX (c:=9) (g:=3) (step:=fun t k=>QcM t c (src x up fill far k) (gi x k)) (v:=fun k=>if lv (mdl I S.gs) c=true then lv (mdl I S.gs) (src x up fill far k) else lv (mdl I S.gs) (gi x k)) h fun n hn S1 h1 hp=>?_
 obtain ⟨f1,f2,f3⟩:=Qw0 h1 (Zu hp hc) (Zu hp (QkY (up:=up) (far:=far) hx hf hn)) (Zu hp (hx.all n hn))
 refine ⟨f1,f2,?_⟩
 rw [f3,ZO hp hc,ZO hp (QkY hx hf hn),ZO hp (hx.all n hn)]
theorem Qpa (s:Nat):(b % 2 ^ (s+1)).toNat=(b % 2 ^ s).toNat+if Zc b s=true then 2 ^ s else 0:=by
 have hp:=Ya s
 have h0:=Int.emod_nonneg b (show (2:Int) ^ s≠0 by omega)
 have hb:=Qim b s
 have hc:=QfP s
 unfold Zc
 rw [Z0]
 rcases (show b / 2 ^ s % 2=0∨b / 2 ^ s % 2=1 by omega) with e | e
 ·rw [e,decide_eq_false (by omega),if_neg (by decide)]; omega
 ·rw [e,decide_eq_true rfl,if_pos rfl]; omega
theorem QIa {x y:List Int} {S:St} {fill a b:Int} (h:Ok I S) (hx:Nb S.gs.length x) (hy:Nb S.gs.length y) (hf:lit S.gs.length fill) (tx:Tl (mdl I S.gs) x a) (ty:Tl (mdl I S.gs) y b) (hfv:lv (mdl I S.gs) fill=false) :
 ∀ n,n≤6→Goes I (576 * n) (192 * n) S (it (fun s i=>Qiv true fill (gi y i) (2 ^ i) s) n (S,x)).1∧Nb (it (fun s i=>Qiv true fill (gi y i) (2 ^ i) s) n (S,x)).1.gs.length (it (fun s i=>Qiv true fill (gi y i) (2 ^ i) s) n (S,x)).2 ∧
   Tl (mdl I (it (fun s i=>Qiv true fill (gi y i) (2 ^ i) s) n (S,x)).1.gs) (it (fun s i=>Qiv true fill (gi y i) (2 ^ i) s) n (S,x)).2 (a * 2 ^ (b % 2 ^ n).toNat)
 | 0,_=>⟨Goes.refl h _ _,hx,by simpa [Int.emod_one,it] using tx⟩
 | n+1,hn=>by
   obtain ⟨h1,h2,h3⟩:=QIa h hx hy hf tx ty hfv n (by omega)
   simp only [it]
   generalize it (fun s i=>Qiv true fill (gi y i) (2 ^ i) s) n (S,x)=r at *
   obtain ⟨S1,z⟩:=r
   simp only at *
   have hc:=hy.all n (by omega)
   obtain ⟨m1,m2,m3⟩:=Qnc (up:=true) (far:=2 ^ n) h1.ok h2 (h1.lit hf) (h1.lit hc)
   refine ⟨(h1.trans m1).more (by omega) (by omega),m2,fun k hk=>?_⟩
   rw [m3 k hk,h1.lv hc,ty n (by omega),Qpa]
   cases hbn:Zc b n with
   | false=>rw [if_neg (by decide),if_neg (by decide),aZ]; exact h3 k hk
   | true =>
     rw [if_pos rfl,if_pos rfl,Int.pow_add,← Int.mul_assoc]
     generalize a * 2 ^ (b % 2 ^ n).toNat=A at *
     unfold src
     rw [if_pos rfl]
     have e:Zc (A * 2 ^ (2 ^ n)) k=if k<2 ^ n then false else Zc A (k - 2 ^ n):=by
      unfold Zc
      rw [QtG]
      split
      ·rfl
      ·rfl
     rw [e]
     by_cases hk2:2 ^ n≤k
     ·rw [if_pos hk2,if_neg (by omega)]; exact h3 _ (Nat.lt_of_le_of_lt (Nat.sub_le _ _) hk)
     ·rw [if_neg hk2,if_pos (by omega),h1.lv hf,hfv]
theorem Qnb {x y:List Int} {S:St} {fill a b:Int} (h:Ok I S) (hx:Nb S.gs.length x) (hy:Nb S.gs.length y) (hf:lit S.gs.length fill) (tx:Tl (mdl I S.gs) x a) (ty:Tl (mdl I S.gs) y b) (hfv:∀ m,64≤m→lv (mdl I S.gs) fill=Zc a m) :
 ∀ n,n≤6→Goes I (576 * n) (192 * n) S (it (fun s i=>Qiv false fill (gi y i) (2 ^ i) s) n (S,x)).1∧Nb (it (fun s i=>Qiv false fill (gi y i) (2 ^ i) s) n (S,x)).1.gs.length (it (fun s i=>Qiv false fill (gi y i) (2 ^ i) s) n (S,x)).2 ∧
   Tl (mdl I (it (fun s i=>Qiv false fill (gi y i) (2 ^ i) s) n (S,x)).1.gs) (it (fun s i=>Qiv false fill (gi y i) (2 ^ i) s) n (S,x)).2 (a / 2 ^ (b % 2 ^ n).toNat)
 | 0,_=>⟨Goes.refl h _ _,hx,by simpa [Int.emod_one,it] using tx⟩
 | n+1,hn=>by
   obtain ⟨h1,h2,h3⟩:=Qnb h hx hy hf tx ty hfv n (by omega)
   simp only [it]
   generalize it (fun s i=>Qiv false fill (gi y i) (2 ^ i) s) n (S,x)=r at *
   obtain ⟨S1,z⟩:=r
   simp only at *
   have hc:=hy.all n (by omega)
   obtain ⟨m1,m2,m3⟩:=Qnc (up:=false) (far:=2 ^ n) h1.ok h2 (h1.lit hf) (h1.lit hc)
   refine ⟨(h1.trans m1).more (by omega) (by omega),m2,fun k hk=>?_⟩
   rw [m3 k hk,h1.lv hc,ty n (by omega),Qpa]
   cases hbn:Zc b n with
   | false=>rw [if_neg (by decide),if_neg (by decide),aZ]; exact h3 k hk
   | true =>
     rw [if_pos rfl,if_pos rfl]
     generalize (b % 2 ^ n).toNat=t at *
     unfold src
     rw [if_neg (by decide)]
     have e (j:Nat) (q:Nat):Zc (a / 2 ^ q) j=Zc a (j+q):=by unfold Zc; rw [QA3]
     rw [e]
     by_cases hk2:k+2 ^ n<64
     ·rw [if_pos hk2,h3 _ hk2,e]; congr 1; omega
     ·rw [if_neg hk2,h1.lv hf]; exact hfv _ (by omega)
end Go.Proofs.YtoeicjlflmmmcaaGreatDoor
namespace Go.Proofs.YtoeicjlflmmmcaaGreatDoor
open Go Go.Am Go.Bl
set_option maxRecDepth 100000
variable {P:Program} {G:Nat→Option V} {I:Int→Int→Bool}
set_option maxHeartbeats 1000000
section
attribute [local go_sem] Nat.mul_one zA Yl zqt_0 zqt_1 zqt_2 zqt_3 zqt_4 zqt_5 zqt_6 zqt_7 decide_false decide_true Q3
theorem QkK {j:Nat}:∀ (i:Nat) (L:List Gt) (a b:V),(a,b)∈bEs i L→V.under j b=true
 | _,[],_,_,h=>by cases h
 | i,d::l,a,b,h=>by
   simp only [bEs,List.mem_cons,Prod.mk.injEq] at h
   rcases h with ⟨rfl,rfl⟩ | h
   ·rfl
   ·exact QkK (i+1) l a b h
theorem QgY:∀ gs:List Gt,Qc (gC gs)=true
 | []=>rfl
 | g::gs=>by
   have:gC (g::gs)=.int .u8 g.k::.int .i64 g.a::.int .i64 g.b::gC gs:=rfl
   rw [this]
   simp [Qc,Qf,QgY gs]
theorem QeJ:∀ cs:List (List Int),Qc (cs.map trw)=true
 | []=>rfl
 | c::cs=>by simp [Qc,Qf,trw,QeJ cs]
theorem Qkg {j:Nat}:∀ {a b:List (Option Ob)},Qd6 j a=true→Qd6 j b=true→Qd6 j (a++b)=true
 | [],b,_,h=>h
 | none::a,b,h,k=>by simp only [cA,Qd6] at h ⊢; exact Qkg h k
 | some o::a,b,h,k=>by simp only [cA,Qd6,Bool.and_eq_true] at h ⊢; exact ⟨h.1,Qkg h.2 k⟩
theorem Qtj {fmt:Int→List UInt8} {v0 v1 v2 v3 v4:Nat} {L:List Nd}:Qd6 12 (kG fmt v0 v1 v2 v3 v4 L)=true:=by
 have h:=QiA (j:=12) 0 L
 simp [kG,Qd6,Ob.under,QU,V.under,Ql _ (Qbi L),Ql _ (XR _)]
 exact h
variable {E:Ev} {K:List (Int × List Int)} {S:St} {B:Bv} {g:Gr}
theorem QmE:Qd6 12 (bH g B S K E)=true:=by
 refine Qkg Qtj ?_
 have h2:=QkK (j:=12) 2 S.gs.tail
 have h3:QU 12 (E.l.map fun x=>V.int .i64 x)=true:=Ql _ (XR E.l)
 have h4:∀ l:List Int,QU 12 (l.map fun x=>V.int .i64 x)=true:=fun l=>Ql _ (XR l)
 have h5:∀ a b:V,(a,b)∈byE S.gs→V.under 12 b=true:=h2
 simp [bO,bS,Qd6,Ob.under,QU,V.under,Ql _ (QgY S.gs),Ql _ (QeJ S.cs),h3,kEn,-List.all_eq_true]
 refine ⟨List.all_eq_true.2 fun p hp=>h5 p.1 p.2 hp,List.all_eq_true.2 fun p _=>h4 p.2⟩
theorem QcJ {f:Nat} {args:List V} {S':St} {K':List (Int × List Int)} {E':Ev} {w:V}
 (h:∀ t B,C P G 5 f args ⟨t,bH g B S K E⟩ fun v σ=>v=w∧∃ t' B',t≤t'∧σ=⟨t',bH g B' S' K' E'⟩) (ha:QU 12 args=true) (hw:V.under 12 w=true) (t:Nat) (B:Bv) (ex:List (Option Ob)) :
 C P G 5 f args ⟨t,bH g B S K E++ex⟩ fun v σ=>v=w∧∃ t' B',t≤t'∧σ=⟨t',bH g B' S' K' E'++ex⟩ :=
 QMG (σB:=⟨t,bH g B S K E++ex⟩) (oS:=bH g B S K E) rfl (h t B) QmE (by rw [Q8]; decide) (by rw [Q8]; exact ha) fun v σ ⟨h1,t',B',h2,h3⟩=>by
  subst h1; subst h3
  exact ⟨rfl,QmE,hw,rfl,t',B',h2,rfl⟩
variable {x:Int}
theorem Qy9 (hT:Qe P tab) {y:Int} (h:Rd I S 3 1) (hx:lit S.gs.length x) (hy:lit S.gs.length y) (t:Nat) (B:Bv) (ex:List (Option Ob)) :
 C P G 5 Zg [.ptr 7 g.b 0,.int .i64 x,.int .i64 y] ⟨t,bH g B S K E++ex⟩ fun v σ=>v=.int .i64 (Qd3 S x y).1∧∃ t' B',t≤t'∧σ=⟨t',bH g B' (Qd3 S x y).2 K E++ex⟩ :=
 QcJ (fun _ _=>QAe hT h hx hy) rfl rfl t B ex
theorem x_or (hT:Qe P tab) {y:Int} (h:Rd I S 3 1) (hx:lit S.gs.length x) (hy:lit S.gs.length y) (t:Nat) (B:Bv) (ex:List (Option Ob)) :
 C P G 5 QaO [.ptr 7 g.b 0,.int .i64 x,.int .i64 y] ⟨t,bH g B S K E++ex⟩ fun v σ=>v=.int .i64 (orS S x y).1∧∃ t' B',t≤t'∧σ=⟨t',bH g B' (orS S x y).2 K E++ex⟩ :=
 QcJ (fun _ _=>k_or hT h hx hy) rfl rfl t B ex
theorem Qy7 (hT:Qe P tab) {y:Int} (h:Rd I S 4 1) (hx:lit S.gs.length x) (hy:lit S.gs.length y) (t:Nat) (B:Bv) (ex:List (Option Ob)) :
 C P G 5 Xz [.ptr 7 g.b 0,.int .i64 x,.int .i64 y] ⟨t,bH g B S K E++ex⟩ fun v σ=>v=.int .i64 (Qd5 S x y).1∧∃ t' B',t≤t'∧σ=⟨t',bH g B' (Qd5 S x y).2 K E++ex⟩ :=
 QcJ (fun _ _=>k_xor hT h hx hy) rfl rfl t B ex
theorem x_pick (hT:Qe P tab) {c y:Int} (h:Rd I S 9 3) (hc:lit S.gs.length c) (hx:lit S.gs.length x) (hy:lit S.gs.length y) (t:Nat) (B:Bv) (ex:List (Option Ob)) :
 C P G 5 Z9 [.ptr 7 g.b 0,.int .i64 c,.int .i64 x,.int .i64 y] ⟨t,bH g B S K E++ex⟩ fun v σ=>v=.int .i64 (QcM S c x y).1∧∃ t' B',t≤t'∧σ=⟨t',bH g B' (QcM S c x y).2 K E++ex⟩ :=
 QcJ (fun _ _=>k_pick hT h hc hx hy) rfl rfl t B ex
variable {x0 x1 x2 x3 x4 y:Option Ob}
theorem x12 {ex:List (Option Ob)}:(bH g B S K E++x0::ex)[12]?=some x0:=rfl
theorem x13 {ex:List (Option Ob)}:(bH g B S K E++x0::x1::ex)[13]?=some x1:=rfl
theorem x14 {ex:List (Option Ob)}:(bH g B S K E++x0::x1::x2::ex)[14]?=some x2:=rfl
theorem x15 {ex:List (Option Ob)}:(bH g B S K E++x0::x1::x2::x3::ex)[15]?=some x3:=rfl
theorem x16 {ex:List (Option Ob)}:(bH g B S K E++x0::x1::x2::x3::x4::ex)[16]?=some x4:=rfl
theorem y12 {ex:List (Option Ob)}:(bH g B S K E++x0::ex).set 12 y=bH g B S K E++y::ex:=rfl
theorem y13 {ex:List (Option Ob)}:(bH g B S K E++x0::x1::ex).set 13 y=bH g B S K E++x0::y::ex:=rfl
theorem y14 {ex:List (Option Ob)}:(bH g B S K E++x0::x1::x2::ex).set 14 y=bH g B S K E++x0::x1::y::ex:=rfl
theorem y15 {ex:List (Option Ob)}:(bH g B S K E++x0::x1::x2::x3::ex).set 15 y=bH g B S K E++x0::x1::x2::y::ex:=rfl
theorem y16 {ex:List (Option Ob)}:(bH g B S K E++x0::x1::x2::x3::x4::ex).set 16 y=bH g B S K E++x0::x1::x2::x3::y::ex:=rfl
theorem QK {ex:List (Option Ob)}:(bH g B S K E++ex).length=12+ex.length:=by rw [lA]; rfl
theorem X0 {ex y:List (Option Ob)}:(bH g B S K E++ex)++y=bH g B S K E++(ex++y):=aA ..
theorem Qag {ex:List (Option Ob)}:List.take 12 (bH g B S K E++ex)=bH g B S K E:=rfl
theorem Nb.lts {n:Nat} {x:List Int} (h:Nb n x) {k:Nat} (hk:k<64):(Qb x).getD k V.any=.int .i64 (gi x k):=QH5 (by rw [h.len]; exact hk)
theorem Qtg (hT:Qe P tab) {t:Nat} {x y:List Int} (h:Rd I S 448 128) (hx:Nb S.gs.length x) (hy:Nb S.gs.length y) :
 C P G 5 YG [.ptr 7 g.b 0,.agg (Qb x),.agg (Qb y)] ⟨t,bH g B S K E⟩ fun v σ=>v=.int .i64 (Qv S x y).2∧∃ t' B',t≤t'∧σ=⟨t',bH g B' (Qv S x y).1 K E⟩:=by
 refine Qj 12 (by decide) (Qo hT XW (by simp [Yl]) (Qm 1000 ?_))
 simp -implicitDefEqProofs (disch:=omega) only [go_sem,↓reduceIte,reduceCtorEq,rA,rq,Q8,QK,X0,lC,lN,cA,nA,and_true,Xl]
 refine XQ 64 (fun k fr σ=>∃ S' o vx vy t' B',t≤t'∧it (unT x y) k (S,-1)=(S',o)∧σ=⟨t',bH g B' S' K E++[some (.arr vx 85 (Qb x)),some (.arr vy 85 (Qb y))]⟩∧Qd fr 0=.ptr 7 g.b 0∧Qd fr 4=.ptr 12 vx 0∧Qd fr 5=.ptr 13 vy 0∧Qd fr 7=.int .i64 o∧Qd fr 9=.int .i64 ((k:Nat):Int))
  (fun e fr σ=>e=.ex 0∧∃ t' B' ex,t≤t'∧σ=⟨t',bH g B' (Qv S x y).1 K E++ex⟩∧Qd fr 7=.int .i64 (Qv S x y).2) ⟨S,-1,t,t+1,t+1+1,B,by omega,rfl,by rfl,by simp -implicitDefEqProofs (disch:=omega) only [go_sem,↓reduceIte],by simp -implicitDefEqProofs (disch:=omega) only [go_sem,↓reduceIte,reduceCtorEq,rq],by simp -implicitDefEqProofs (disch:=omega) only [go_sem,↓reduceIte,reduceCtorEq,rq],by simp -implicitDefEqProofs (disch:=omega) only [go_sem,↓reduceIte,reduceCtorEq,rq],by simp -implicitDefEqProofs (disch:=omega) only [go_sem,↓reduceIte,reduceCtorEq,rq]; rfl⟩ (fun k hk fr σ hJ=>?_) (fun k hk fr σ hJ=>?_) (fun e fr σ hE=>?_)
 ·obtain ⟨S',o,vx,vy,t',B',ht,hit,rfl,f0,f4,f5,f7,f9⟩:=hJ
  have hki:(k:Int)<64:=by omega
  have hk0:(0:Int)≤(k:Int):=by omega
  have gx:=hx.lts hk
  have gy:=hy.lts hk
  have hw:=w_k hk
  obtain ⟨a,ta⟩:=ZB (mdl I S.gs) x
  obtain ⟨b,tb⟩:=ZB (mdl I S.gs) y
  obtain ⟨u1,u2,-⟩:=QkJ h.ok hx hy ta tb k (by omega)
  have hit1:it (unT x y) (k+1) (S,-1)=unT x y (S',o) k:=by rw [it,hit]
  rw [hit] at u1 u2
  simp only at u1 u2
  have r1:Rd I S' 7 2:=h.go u1 (by omega) (by omega)
  obtain ⟨p1,p2,-⟩:=Qjs u1.ok (u1.lit (hx.all k hk)) (u1.lit (hy.all k hk))
  have hX:=fun t B ex=>Qy7 (P:=P) (G:=G) (K:=K) (E:=E) (g:=g) hT (r1.less (by omega) (by omega)) (u1.lit (hx.all k hk)) (u1.lit (hy.all k hk)) t B ex
  have hO:=fun t B ex=>x_or (P:=P) (G:=G) (K:=K) (E:=E) (g:=g) hT (r1.go p1 (by omega) (by omega)) (p1.lit u2) p2 t B ex
  unfold unT at hit1
  simp only at hit1
  refine Qh [(0,.ptr 7 g.b 0),(4,.ptr 12 vx 0),(5,.ptr 13 vy 0),(7,.int .i64 o),(9,.int .i64 ((k:Nat):Int))] ⟨f0,f4,f5,f7,f9,trivial⟩  1000 ?_
  simp -implicitDefEqProofs (disch:=omega) only [go_sem,↓reduceIte,reduceCtorEq,rq,rL,x12,x13,true_implies,true_and,and_true,hki,hk0,Int.toNat_natCast,gx,gy,QG hx.len,QG hy.len]
  refine call hT Xa (hX _ _ _) 1000 fun v σ hv=>?_
  obtain ⟨rfl,t1,B1,ht1,rfl⟩:=hv
  simp -implicitDefEqProofs (disch:=omega) only [go_sem,↓reduceIte,reduceCtorEq,rq]
  refine call hT YL (hO _ _ _) 1000 fun v σ hv=>?_
  obtain ⟨rfl,t2,B2,ht2,rfl⟩:=hv
  simp -implicitDefEqProofs (disch:=omega) only [go_sem,↓reduceIte,reduceCtorEq,rq,hw]
  refine ⟨_,_,Shift.refl _ _ _ _,_,_,vx,vy,t2,B2,by omega,hit1,rfl,?_⟩
  simp -implicitDefEqProofs (disch:=omega) only [go_sem,↓reduceIte,reduceCtorEq,rq]
 ·obtain ⟨S',o,vx,vy,t',B',ht,hit,rfl,f0,f4,f5,f7,f9⟩:=hJ
  have hki:¬ (k:Int)<64:=by omega
  rw [hk] at hit
  refine Qh [(0,.ptr 7 g.b 0),(4,.ptr 12 vx 0),(5,.ptr 13 vy 0),(7,.int .i64 o),(9,.int .i64 ((k:Nat):Int))] ⟨f0,f4,f5,f7,f9,trivial⟩  1000 ?_
  simp -implicitDefEqProofs (disch:=omega) only [go_sem,↓reduceIte,reduceCtorEq,rq,hki]
  unfold Qv
  rw [hit]
  exact ⟨t',B',_,ht,⟨rfl,rfl⟩,by simp -implicitDefEqProofs (disch:=omega) only [go_sem]⟩
 ·obtain ⟨rfl,t',B',ex,ht,rfl,f7⟩:=hE
  refine Qg 1000 ?_
  simp -implicitDefEqProofs (disch:=omega) only [go_sem,↓reduceIte,rq,f7,QK,Qag,true_and]
  exact ⟨by omega,t',B',ht,rfl,rfl⟩
theorem QsH (hT:Qe P tab) {x y:List Int} (h:Rd I S 448 128) (hx:Nb S.gs.length x) (hy:Nb S.gs.length y) (t:Nat) (B:Bv) (ex:List (Option Ob)) :
 C P G 5 YG [.ptr 7 g.b 0,.agg (Qb x),.agg (Qb y)] ⟨t,bH g B S K E++ex⟩ fun v σ=>v=.int .i64 (Qv S x y).2∧∃ t' B',t≤t'∧σ=⟨t',bH g B' (Qv S x y).1 K E++ex⟩ :=
 QcJ (fun _ _=>Qtg hT h hx hy) (by simp [QU,V.under,Ql _ (QL _)]) rfl t B ex
end
section
attribute [local go_sem] nFq lR Nat.mul_one zA Y6 QD4 QD3 QD2 QD1 QD0 QDZ QDY QDX QDW Qdm QDE QDD QDC QDB QDA QDz QDy decide_false decide_true Q3
variable {A:AF}
theorem QlB {T:Nat→Option AF} (hT:Qe P T) {f:Nat} (hf:T f=some A) {n base base':Nat} {Q:AE→Fr→H→Prop} {t:AT} {d:Option Nat} {dead:List Nat} {s:List KI} {fr:Fr} {first args cap:List V} {σ:H} {R:V→H→Prop}
 (h:C P G base' f (first++args++cap) σ R) (fuel:Nat) (k:∀ v σ',R v σ'→run P G n base Q fuel (.at t dead::s) .nrm (fput fr d v) σ'):CV P G base' (.fn (.func f) first cap) args σ (kC P G n base Q d t dead s fr) :=
 QtL hT hf (h.conseq fun v σ' hq=>Qg fuel (k v σ' hq))
variable {c:Int} {x y:List Int} {t:Nat} {E:Ev} {K:List (Int × List Int)} {S:St} {B:Bv} {g:Gr}
theorem k_sum (hT:Qe P tab) (h:Rd I S 1088 320) (hx:Nb S.gs.length x) (hy:Nb S.gs.length y) (hc:lit S.gs.length c) :
 C P G 5 Qar [.ptr 7 g.b 0,.agg (Qb x),.agg (Qb y),.int .i64 c] ⟨t,bH g B S K E⟩ fun v σ=>v=.tup [.agg (Qb (Qeb S x y c).1),.int .i64 (Qeb S x y c).2.2]∧∃ t' B',t≤t'∧σ=⟨t',bH g B' (Qeb S x y c).2.1 K E⟩:=by
 obtain ⟨a,ta⟩:=ZB (mdl I S.gs) x
 obtain ⟨b,tb⟩:=ZB (mdl I S.gs) y
 refine Qj 12 (by decide) (Qo hT Xy (by simp [Y6]) (Qm 1000 ?_))
 simp -implicitDefEqProofs (disch:=omega) only [go_sem,↓reduceIte,reduceCtorEq,rA,rq,Q8,QK,X0,lC,lN,cA,nA,and_true,Xl]
 refine XQ 64 (fun k fr σ=>∃ zl S' c' vx vy vz t' B',t≤t'∧fo (QgQ x y) k (S,c)=(zl,S',c')∧σ=⟨t',bH g B' S' K E++[some (.arr vx 85 (Qb x)),some (.arr vy 85 (Qb y)),some (.arr vz 85 (zs zl))]⟩∧Qd fr 0=.ptr 7 g.b 0∧Qd fr 3=.int .i64 c'∧Qd fr 5=.ptr 12 vx 0∧Qd fr 6=.ptr 13 vy 0∧Qd fr 8=.ptr 14 vz 0∧Qd fr 12=.int .i64 ((k:Nat):Int))
  (fun e fr σ=>e=.ex 0∧∃ t' B' o1 o2 vz,t≤t'∧σ=⟨t',bH g B' (Qeb S x y c).2.1 K E++[o1,o2,some (.arr vz 85 (Qb (Qeb S x y c).1))]⟩∧Qd fr 3=.int .i64 (Qeb S x y c).2.2∧Qd fr 8=.ptr 14 vz 0) ⟨[],S,c,t,t+1,t+1+1,t+1+1+1,B,by omega,rfl,?_,by simp -implicitDefEqProofs (disch:=omega) only [go_sem,↓reduceIte],by simp -implicitDefEqProofs (disch:=omega) only [go_sem,↓reduceIte,reduceCtorEq,rq],by simp -implicitDefEqProofs (disch:=omega) only [go_sem,↓reduceIte,reduceCtorEq,rq],by simp -implicitDefEqProofs (disch:=omega) only [go_sem,↓reduceIte,reduceCtorEq,rq],by simp -implicitDefEqProofs (disch:=omega) only [go_sem,↓reduceIte,reduceCtorEq,rq],by simp -implicitDefEqProofs (disch:=omega) only [go_sem,↓reduceIte,reduceCtorEq,rq]; rfl⟩ (fun k hk fr σ hJ=>?_) (fun k hk fr σ hJ=>?_) (fun e fr σ hE=>?_)
 ·rfl
 ·obtain ⟨zl,S',c',vx,vy,vz,t',B',ht,hit,rfl,f0,f3,f5,f6,f8,f12⟩:=hJ
  have hki:(k:Int)<64:=by omega
  have hk0:(0:Int)≤(k:Int):=by omega
  have gx:=hx.lts hk
  have gy:=hy.lts hk
  have hw:=w_k hk
  obtain ⟨u1,u2,-⟩:=QwO h.ok hx hy hc ta tb rfl k (by omega)
  have hlz:=Y5 (step:=QgQ x y) (s:=(S,c)) k
  have hit1:fo (QgQ x y) (k+1) (S,c)=(zl++[(QgQ x y (S',c') k).1],(QgQ x y (S',c') k).2):=by rw [fo,hit]
  rw [hit] at u1 u2 hlz
  simp only at u1 u2 hlz
  have r0:Rd I S' 17 5:=h.go u1 (by omega) (by omega)
  have lx:=u1.lit (hx.all k hk)
  have ly:=u1.lit (hy.all k hk)
  unfold QgQ at hit1
  simp only at hit1
  generalize gi x k=gx0 at *
  generalize gi y k=gy0 at *
  obtain ⟨p1,p2,-⟩:=Qjs r0.ok lx ly
  have hP:=fun t B ex=>Qy7 (P:=P) (G:=G) (K:=K) (E:=E) (g:=g) hT (r0.less (by omega) (by omega)) lx ly t B ex
  generalize Qd5 S' gx0 gy0=p at *
  have r1:Rd I p.2 13 4:=r0.go p1 (by omega) (by omega)
  obtain ⟨z1,z2,-⟩:=Qjs p1.ok p2 (p1.lit u2)
  have hZ:=fun t B ex=>Qy7 (P:=P) (G:=G) (K:=K) (E:=E) (g:=g) hT (r1.less (by omega) (by omega)) p2 (p1.lit u2) t B ex
  generalize Qd5 p.2 p.1 c'=z at *
  have r2:Rd I z.2 9 3:=r1.go z1 (by omega) (by omega)
  have g2:=p1.trans z1
  obtain ⟨q1,q2,-⟩:=Qdp z1.ok (g2.lit lx) (g2.lit ly)
  have hQ:=fun t B ex=>Qy9 (P:=P) (G:=G) (K:=K) (E:=E) (g:=g) hT (r2.less (by omega) (by omega)) (g2.lit lx) (g2.lit ly) t B ex
  generalize Qd3 z.2 gx0 gy0=q at *
  have r3:Rd I q.2 6 2:=r2.go q1 (by omega) (by omega)
  have g3:=g2.trans q1
  obtain ⟨e1,e2,-⟩:=Qdp q1.ok ((z1.trans q1).lit p2) (g3.lit u2)
  have hR:=fun t B ex=>Qy9 (P:=P) (G:=G) (K:=K) (E:=E) (g:=g) hT (r3.less (by omega) (by omega)) ((z1.trans q1).lit p2) (g3.lit u2) t B ex
  generalize Qd3 q.2 p.1 c'=r at *
  have r4:Rd I r.2 3 1:=r3.go e1 (by omega) (by omega)
  have hD:=fun t B ex=>x_or (P:=P) (G:=G) (K:=K) (E:=E) (g:=g) hT r4 (e1.lit q2) e2 t B ex
  generalize orS r.2 q.1 r.1=d at *
  have hz:(zs zl).length=64:=QeC (by omega)
  have hp:=QnN (v:=z.1) hlz hk
  refine Qh [(0,.ptr 7 g.b 0),(3,.int .i64 c'),(5,.ptr 12 vx 0),(6,.ptr 13 vy 0),(8,.ptr 14 vz 0),(12,.int .i64 ((k:Nat):Int))] ⟨f0,f3,f5,f6,f8,f12,trivial⟩  1000 ?_
  simp -implicitDefEqProofs (disch:=omega) only [go_sem,↓reduceIte,reduceCtorEq,rq,rL,x12,x13,true_implies,true_and,and_true,hki,hk0,Int.toNat_natCast,gx,gy,QG hx.len,QG hy.len]
  refine call hT Xa (hP _ _ _) 1000 fun v σ hv=>?_
  obtain ⟨rfl,t1,B1,ht1,rfl⟩:=hv
  simp -implicitDefEqProofs (disch:=omega) only [go_sem,↓reduceIte,reduceCtorEq,rq]
  refine call hT Xa (hZ _ _ _) 1000 fun v σ hv=>?_
  obtain ⟨rfl,t2,B2,ht2,rfl⟩:=hv
  simp -implicitDefEqProofs (disch:=omega) only [go_sem,↓reduceIte,reduceCtorEq,rq,rL,x12,x13,x14,y14,lC,lN,true_implies,true_and,and_true,hk0,Int.toNat_natCast,hz,hp,gx,gy,QG hx.len,QG hy.len]
  refine call hT Xb (hQ _ _ _) 1000 fun v σ hv=>?_
  obtain ⟨rfl,t3,B3,ht3,rfl⟩:=hv
  simp -implicitDefEqProofs (disch:=omega) only [go_sem,↓reduceIte,reduceCtorEq,rq]
  refine call hT Xb (hR _ _ _) 1000 fun v σ hv=>?_
  obtain ⟨rfl,t4,B4,ht4,rfl⟩:=hv
  simp -implicitDefEqProofs (disch:=omega) only [go_sem,↓reduceIte,reduceCtorEq,rq]
  refine call hT YL (hD _ _ _) 1000 fun v σ hv=>?_
  obtain ⟨rfl,t5,B5,ht5,rfl⟩:=hv
  simp -implicitDefEqProofs (disch:=omega) only [go_sem,↓reduceIte,reduceCtorEq,rq,hw]
  refine ⟨_,_,Shift.refl _ _ _ _,_,_,_,vx,vy,vz,t5,B5,by omega,hit1,rfl,?_⟩
  simp -implicitDefEqProofs (disch:=omega) only [go_sem,↓reduceIte,reduceCtorEq,rq]
 ·obtain ⟨zl,S',c',vx,vy,vz,t',B',ht,hit,rfl,f0,f3,f5,f6,f8,f12⟩:=hJ
  have hki:¬ (k:Int)<64:=by omega
  have hlz:=Y5 (step:=QgQ x y) (s:=(S,c)) k
  rw [hk] at hit hlz
  rw [hit] at hlz
  rw [QmH (show zl.length=64 from hlz)]
  refine Qh [(0,.ptr 7 g.b 0),(3,.int .i64 c'),(5,.ptr 12 vx 0),(6,.ptr 13 vy 0),(8,.ptr 14 vz 0),(12,.int .i64 ((k:Nat):Int))] ⟨f0,f3,f5,f6,f8,f12,trivial⟩  1000 ?_
  simp -implicitDefEqProofs (disch:=omega) only [go_sem,↓reduceIte,reduceCtorEq,rq,hki]
  unfold Qeb
  rw [hit]
  exact ⟨t',B',_,_,vz,ht,⟨rfl,rfl⟩,by simp -implicitDefEqProofs (disch:=omega) only [go_sem],by simp -implicitDefEqProofs (disch:=omega) only [go_sem]⟩
 ·obtain ⟨rfl,t',B',o1,o2,vz,ht,rfl,f3,f8⟩:=hE
  refine Qg 1000 ?_
  have hl:(Qeb S x y c).1.length=64:=Y5 64
  simp -implicitDefEqProofs (disch:=omega) only [go_sem,↓reduceIte,reduceCtorEq,rA,rq,rL,f3,f8,QK,Qag,x14,y14,lC,lN,nA,false_implies,true_and,and_true,QG hl,Qx hl,Zt hl,Xl,List.append_nil]
  exact ⟨t',B',ht,rfl,rfl⟩
theorem Ys (x:List Int):QU 12 (Qb x)=true:=Ql _ (QL x)
theorem Qy8 (hT:Qe P tab) (h:Rd I S 1088 320) (hx:Nb S.gs.length x) (hy:Nb S.gs.length y) (hc:lit S.gs.length c) (t:Nat) (B:Bv) (ex:List (Option Ob)) :
 C P G 5 Qar [.ptr 7 g.b 0,.agg (Qb x),.agg (Qb y),.int .i64 c] ⟨t,bH g B S K E++ex⟩ fun v σ=>v=.tup [.agg (Qb (Qeb S x y c).1),.int .i64 (Qeb S x y c).2.2]∧∃ t' B',t≤t'∧σ=⟨t',bH g B' (Qeb S x y c).2.1 K E++ex⟩ :=
 QcJ (fun _ _=>k_sum hT h hx hy hc) (by simp [QU,V.under,Ys]) (by simp [V.under,QU,Ys]) t B ex
theorem k_each (hT:Qe P tab) {ff:Nat} (hff:tab ff=some A) {f:St→Int→Int→Int × St} {vv:Bool→Bool→Bool} {fc fg:Nat}
 (hf:∀ {S:St},Ok I S→∀ {x y:Int},lit S.gs.length x→lit S.gs.length y→Goes I fc fg S (f S x y).2∧lit (f S x y).2.gs.length (f S x y).1∧lv (mdl I (f S x y).2.gs) (f S x y).1=vv (lv (mdl I S.gs) x) (lv (mdl I S.gs) y))
 (hC:∀ {S:St} {x y:Int},Rd I S fc fg→lit S.gs.length x→lit S.gs.length y→∀ t B ex,C P G 5 ff [.ptr 7 g.b 0,.int .i64 x,.int .i64 y] ⟨t,bH g B S K E++ex⟩ fun v σ=>v=.int .i64 (f S x y).1∧∃ t' B',t≤t'∧σ=⟨t',bH g B' (f S x y).2 K E++ex⟩)
 (h:Rd I S (fc * 64) (fg * 64)) (hx:Nb S.gs.length x) (hy:Nb S.gs.length y) :
 C P G 5 Qe7 [.agg (Qb x),.agg (Qb y),.fn (.func ff) [.ptr 7 g.b 0] []] ⟨t,bH g B S K E⟩ fun v σ=>v=.agg (Qb (QaU f S x y).1)∧∃ t' B',t≤t'∧σ=⟨t',bH g B' (QaU f S x y).2 K E⟩:=by
 refine Qj 12 (by decide) (Qo hT QcC (by simp [Qdm]) (Qm 1000 ?_))
 simp -implicitDefEqProofs (disch:=omega) only [go_sem,↓reduceIte,reduceCtorEq,rA,rq,Q8,QK,X0,lC,lN,cA,nA,and_true,Xl]
 refine XQ 64 (fun k fr σ=>∃ zl S' vx vy vz t' B',t≤t'∧fo (fun s k=>f s (gi x k) (gi y k)) k S=(zl,S')∧σ=⟨t',bH g B' S' K E++[some (.arr vx 85 (Qb x)),some (.arr vy 85 (Qb y)),some (.arr vz 85 (zs zl))]⟩∧Qd fr 2=.fn (.func ff) [.ptr 7 g.b 0] []∧Qd fr 3=.ptr 12 vx 0∧Qd fr 4=.ptr 13 vy 0∧Qd fr 6=.ptr 14 vz 0∧Qd fr 8=.int .i64 ((k:Nat):Int))
  (fun e fr σ=>e=.ex 0∧∃ t' B' o1 o2 vz,t≤t'∧σ=⟨t',bH g B' (QaU f S x y).2 K E++[o1,o2,some (.arr vz 85 (Qb (QaU f S x y).1))]⟩∧Qd fr 6=.ptr 14 vz 0) ⟨[],S,t,t+1,t+1+1,t+1+1+1,B,by omega,rfl,?_,by simp -implicitDefEqProofs (disch:=omega) only [go_sem,↓reduceIte,reduceCtorEq,rq],by simp -implicitDefEqProofs (disch:=omega) only [go_sem,↓reduceIte,reduceCtorEq,rq],by simp -implicitDefEqProofs (disch:=omega) only [go_sem,↓reduceIte,reduceCtorEq,rq],by simp -implicitDefEqProofs (disch:=omega) only [go_sem,↓reduceIte,reduceCtorEq,rq],by simp -implicitDefEqProofs (disch:=omega) only [go_sem,↓reduceIte,reduceCtorEq,rq]; rfl⟩ (fun k hk fr σ hJ=>?_) (fun k hk fr σ hJ=>?_) (fun e fr σ hE=>?_)
 ·rfl
 ·obtain ⟨zl,S',vx,vy,vz,t',B',ht,hit,rfl,f2,f3,f4,f6,f8⟩:=hJ
  have hki:(k:Int)<64:=by omega
  have hk0:(0:Int)≤(k:Int):=by omega
  have gx:=hx.lts hk
  have gy:=hy.lts hk
  have hw:=w_k hk
  have hlz:=Y5 (step:=fun s k=>f s (gi x k) (gi y k)) (s:=S) k
  obtain ⟨u1,-⟩:=QxW (I:=I) (step:=fun s k=>f s (gi x k) (gi y k)) (v:=fun k=>vv (lv (mdl I S.gs) (gi x k)) (lv (mdl I S.gs) (gi y k))) (c:=fc) (g:=fg) h.ok (fun n hn S1 o1 pr=>by
   obtain ⟨f1,f2,f3⟩:=hf o1 (Zu pr (hx.all n hn)) (Zu pr (hy.all n hn))
   exact ⟨f1,f2,by rw [f3,ZO pr (hx.all n hn),ZO pr (hy.all n hn)]⟩) k (by omega)
  have hit1:fo (fun s k=>f s (gi x k) (gi y k)) (k+1) S=(zl++[(f S' (gi x k) (gi y k)).1],(f S' (gi x k) (gi y k)).2):=by rw [fo,hit]
  rw [hit] at u1 hlz
  simp only at u1 hlz
  have e1:fc * k+fc≤fc * 64:=by rw [← Nat.mul_succ]; exact Nat.mul_le_mul_left _ (by omega)
  have e2:fg * k+fg≤fg * 64:=by rw [← Nat.mul_succ]; exact Nat.mul_le_mul_left _ (by omega)
  have r0:Rd I S' fc fg:=h.go u1 e1 e2
  have hP:=fun t B ex=>hC r0 (u1.lit (hx.all k hk)) (u1.lit (hy.all k hk)) t B ex
  have hz:(zs zl).length=64:=QeC (by omega)
  have hp:=QnN (v:=(f S' (gi x k) (gi y k)).1) hlz hk
  refine Qh [(2,.fn (.func ff) [.ptr 7 g.b 0] []),(3,.ptr 12 vx 0),(4,.ptr 13 vy 0),(6,.ptr 14 vz 0),(8,.int .i64 ((k:Nat):Int))] ⟨f2,f3,f4,f6,f8,trivial⟩  1000 ?_
  simp -implicitDefEqProofs (disch:=omega) only [go_sem,↓reduceIte,rq,rL,x12,x13,true_implies,true_and,and_true,hki,hk0,Int.toNat_natCast,gx,gy,QG hx.len,QG hy.len]
  refine QlB hT hff (hP _ _ _) 1000 fun v σ hv=>?_
  obtain ⟨rfl,t1,B1,ht1,rfl⟩:=hv
  simp -implicitDefEqProofs (disch:=omega) only [go_sem,↓reduceIte,rq,rL,x14,y14,lC,lN,true_and,and_true,hk0,Int.toNat_natCast,hz,hp,hw]
  refine ⟨_,_,Shift.refl _ _ _ _,_,_,vx,vy,vz,t1,B1,by omega,hit1,rfl,?_⟩
  simp -implicitDefEqProofs (disch:=omega) only [go_sem,↓reduceIte,rq]
 ·obtain ⟨zl,S',vx,vy,vz,t',B',ht,hit,rfl,f2,f3,f4,f6,f8⟩:=hJ
  have hki:¬ (k:Int)<64:=by omega
  have hlz:=Y5 (step:=fun s k=>f s (gi x k) (gi y k)) (s:=S) k
  rw [hk] at hit hlz
  rw [hit] at hlz
  rw [QmH (show zl.length=64 from hlz)]
  refine Qh [(2,.fn (.func ff) [.ptr 7 g.b 0] []),(3,.ptr 12 vx 0),(4,.ptr 13 vy 0),(6,.ptr 14 vz 0),(8,.int .i64 ((k:Nat):Int))] ⟨f2,f3,f4,f6,f8,trivial⟩  1000 ?_
  simp -implicitDefEqProofs (disch:=omega) only [go_sem,↓reduceIte,rq,hki]
  unfold QaU
  rw [hit]
  exact ⟨t',B',_,_,vz,ht,⟨rfl,rfl⟩,by simp -implicitDefEqProofs (disch:=omega) only [go_sem]⟩
 ·obtain ⟨rfl,t',B',o1,o2,vz,ht,rfl,f6⟩:=hE
  refine Qg 1000 ?_
  have hl:(QaU f S x y).1.length=64:=Y5 64
  simp -implicitDefEqProofs (disch:=omega) only [go_sem,↓reduceIte,reduceCtorEq,rA,rq,rL,f6,QK,Qag,x14,y14,lC,lN,nA,false_implies,true_and,and_true,QG hl,Qx hl,Zt hl,Xl,List.append_nil]
  exact ⟨t',B',ht,rfl,rfl⟩
end
end Go.Proofs.YtoeicjlflmmmcaaGreatDoor
