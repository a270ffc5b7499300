/- Ours. -/
import Derived.Test.YtbdhjeojcpgblaaGreatDoorJ5
import Derived.Test.YtbdhjeojcpgblaaGreatDoorJ4
namespace Go.Proofs.YtbdhjeojcpgblaaGreatDoor
open Go Go.Am
set_option maxRecDepth 100000
set_option maxHeartbeats 1000000
def inG (L:List Nd) (x:Int):Prop:=0≤x∧x<L.length
instance {L:List Nd} {x:Int}:Decidable (inG L x):=by unfold inG; infer_instance
def Qjg (L:List Nd) (x:Int):Option Int:=if inG L x∧(nd L x).kind=1 then some (nd L x).n else none
def Qvz (L:List Nd) (x:Int):Bool:=decide (inG L x∧(((nd L x).kind=4∧((nd L x).op=14∨(nd L x).op=15∨(nd L x).op=16))∨((nd L x).kind=1∧((nd L x).n=0∨(nd L x).n=1))))
def ofI (L:List Nd) (x op:Int):Option (Int × Int):=if inG L x∧(nd L x).kind=4∧(nd L x).op=op then some ((nd L x).x,(nd L x).y) else none
def Qfa (L:List Nd) (x op:Int):Option (Int × Int):=(ofI L x op).bind fun p=>(Qjg L p.2).map fun c=>(p.1,c)
abbrev GR:=Int × List Nd
abbrev Qhd:=List Nd→Int→Int→Int→Option GR
def Qdo (L:List Nd) (n:Int):GR:=addN L ⟨1,n,0,0,0,0⟩
def QgW (bin:Qhd) (L:List Nd) (op x n:Int):Option GR:=bin (Qdo L n).2 op x (Qdo L n).1
def Qk5 (L:List Nd) (op x:Int):GR :=
 if op=2∨op=10∨op=14∨op=15 then Qdo L 0 else if op=16 then Qdo L 1 else if op=8∨op=9 then (x,L) else (-1,L)
def QaJ (L:List Nd) (op x c:Int):GR :=
 if Qe7 op=some c then (x,L)
 else if (op=3∨op=8∨op=15)∧c=0 then Qdo L 0
 else if op=9∧c=-1 then Qdo L (-1)
 else if (op=5∨op=7)∧c=1 then Qdo L 0
 else (-1,L)
def Qgh (bin:Qhd) (L:List Nd) (op x c:Int):Option GR :=
 if op=2 then QgW bin L 1 x (IntKind.i64.wrap (-c))
 else if op=11 then QgW bin L 3 x (IntKind.i64.wrap (2 ^ (c % 64).toNat))
 else if (op=12∨op=13)∧c≠c % 64 then QgW bin L op x (c % 64)
 else if op=6∧(Qk6 c).isSome=true then QgW bin L 12 x ((Qk6 c).getD 0:Nat)
 else if op=7∧(Qk6 c).isSome=true then QgW bin L 8 x (IntKind.i64.wrap (c - 1))
 else if op=15∧c=1 then QgW bin L 16 x 0
 else some (-1,L)
def QeS (bin:Qhd) (L:List Nd) (op b c:Int):Option GR :=
 if Qvz L b=false then some (-1,L)
 else if (op=8∧c % 2=1)∨(op=16∧c=1) then some (b,L)
 else if op=8∨(op=16∧c≠0) then some (Qdo L 0)
 else if op=10∧c % 2=1 then (QgW bin L 16 b 0).bind fun r=>QgW bin r.2 10 r.1 (doW 10 c 1)
 else match Qfa L b 16 with
  | some (x,d)=>if op=16∧d=0∧Qvz L x=true then some (x,L) else some (-1,L)
  | none=>some (-1,L)
def Qei (bin:Qhd) (L:List Nd) (op x c:Int):Option GR :=
 match Qfa L x op with
 | some (y,d)=>if QhJ op=true then QgW bin L op y (doW op d c) else some (-1,L)
 | none=>some (-1,L)
def Qca (bin:Qhd) (L:List Nd) (op x c:Int):Option GR :=
 if op≠16 then some (-1,L) else
 match Qfa L x 1 with
 | some (y,d)=>QgW bin L 16 y (IntKind.i64.wrap (c - d))
 | none=>match Qfa L x 10 with
   | some (y,d)=>QgW bin L 16 y (doW 10 c d)
   | none=>match ofI L x 10 with
     | some (y,z)=>if c=0 then bin L 16 y z else some (-1,L)
     | none=>match ofI L x 2 with
       | some (y,z)=>if c=0 then bin L 16 y z else some (-1,L)
       | none=>some (-1,L)
def Qmu (r:Option GR) (k:List Nd→Option GR):Option GR:=r.bind fun r=>if r.1≠-1 then some r else k r.2
def Qjv (bin:Qhd) (L:List Nd) (op x c:Int):Option GR :=
 Qmu (some (QaJ L op x c)) fun L=>Qmu (Qgh bin L op x c) fun L=>Qmu (QeS bin L op x c) fun L=>Qmu (Qei bin L op x c) fun L=>Qca bin L op x c
def Qjt (bin:Qhd) (L:List Nd) (op x y:Int) (p q:Option Int):Option GR :=
 if x=y then some (Qk5 L op x)
 else match q with
  | some b=>Qjv bin L op x b
  | none=>if p=some 0∧op=15 then (bin L 16 y x).bind fun r=>bin r.2 16 r.1 x else some (-1,L)
def Qxd (bin:Qhd) (L:List Nd) (op x y:Int) (p q:Option Int):Option GR:=Qmu (Qjt bin L op x y p q) fun L=>some (addN L ⟨4,0,0,op,x,y⟩)
def binR (bin:Qhd) (L:List Nd) (op x y:Int):Option GR :=
 match Qjg L x,Qjg L y with
 | some a,some b=>some (Qdo L (doW op a b))
 | p,q=>if Qhg op=true∧(p.isSome=true∨(q=none∧y<x)) then Qxd bin L op y x q p else Qxd bin L op x y p q
def QTT:Nat→Qhd
 | 0=>fun _ _ _ _=>none
 | f+1=>binR (QTT f)
-- values
variable {x n op:Int} {L L':List Nd}
theorem QiB (h:L <+: L') (hx:inG L x):inG L' x∧nd L' x=nd L x:=by
 obtain ⟨r,rfl⟩:=h
 unfold inG at *
 refine ⟨by simp; omega,?_⟩
 unfold nd
 rw [List.getD_eq_getElem?_getD,List.getD_eq_getElem?_getD,List.getElem?_append_left (by omega)]
theorem Qdu {S:List Int} {C:List Cl} (h:L <+: L') (hx:inG L x):val S C L' x=val S C L x:=by
 obtain ⟨r,rfl⟩:=h
 unfold inG at hx
 unfold val
 have:=Qpw (S:=S) (C:=C) (L:=L++r) (n:=L.length) (i:=x.toNat) (by omega) (by simp)
 rw [List.take_left] at this
 exact this.symm
theorem QCK {d:Nd}:∀ {L:List Nd} {i:Nat},idx d L=some i→L[i]?=some d
 | e::L,i,h=>by
   unfold idx at h
   split at h
   ·rename_i he; cases h; rw [he]; rfl
   ·cases hi:idx d L with
    | none=>rw [hi] at h; cases h
    | some j =>
      rw [hi] at h
      simp only [Option.map_some,Option.some.injEq] at h
      subst h
      simpa using QCK hi
theorem QDT {d:Nd} (hm:d.may L.length=true):inG (addN L d).2 (addN L d).1∧nd (addN L d).2 (addN L d).1=d:=by
 unfold addN
 rw [if_pos hm]
 cases h:idx d L with
 | some i =>
   have hg:=QCK h
   have hlt:=(List.getElem?_eq_some_iff.1 hg).1
   refine ⟨⟨?_,?_⟩,?_⟩
   ·show (0:Int)≤(i:Int); omega
   ·show (i:Int)<(L.length:Int); omega
   ·show nd L (i:Int)=d
    simp [nd,List.getD_eq_getElem?_getD,hg]
 | none =>
   refine ⟨⟨?_,?_⟩,?_⟩
   ·show (0:Int)≤(L.length:Int); omega
   ·show (L.length:Int)<((L++[d]).length:Int); simp; omega
   ·show nd (L++[d]) (L.length:Int)=d
    simp [nd,List.getD_eq_getElem?_getD]
variable {S:List Int} {C:List Cl}
structure Made1 (S:List Int) (C:List Cl) (L:List Nd) (w:Int) (r:GR):Prop where
 pre:L <+: r.2
 ok:okN r.2
 val:r.1≠-1→inG r.2 r.1∧val S C r.2 r.1=w
theorem Made1.none (hok:okN L) (w:Int):Made1 S C L w (-1,L):=⟨List.prefix_rfl,hok,fun h=>absurd rfl h⟩
theorem Made1.here (hok:okN L) {w:Int} (hx:inG L x) (h:Go.Proofs.YtbdhjeojcpgblaaGreatDoor.val S C L x=w):Made1 S C L w (x,L):=⟨List.prefix_rfl,hok,fun _=>⟨hx,h⟩⟩
theorem QCa (n:Int) (k:Nat):Nd.may ⟨1,n,0,0,0,0⟩ k=true:=by simp [Nd.may]
theorem Qbk (hok:okN L) (hn:i64 n):Made1 S C L n (Qdo L n)∧(Qdo L n).1≠-1:=by
 obtain ⟨h1,h2⟩:=QDT (QCa n L.length)
 have hok2:okN (Qdo L n).2:=Ql7 hok hn (show i64 0 by unfold i64; omega)
 refine ⟨⟨Qml _ _,hok2,fun _=>⟨h1,?_⟩⟩,?_⟩
 ·refine (Qrq hok2.wf (Qsd hok2) h1.1 h1.2).trans ?_
  show QhB S C _ (nd (addN L _).2 (addN L _).1)=n
  rw [h2]
  simp [QhB]
 ·have:=h1.1
  show (addN L _).1≠-1
  omega
theorem QfV (hok:okN L) (h:Qjg L x=some n):val S C L x=n∧i64 n:=by
 unfold Qjg at h
 split at h
 ·rename_i hc
  cases h
  refine ⟨?_,nd_i64 hok x⟩
  rw [Qrq hok.wf (Qsd hok) hc.1.1 hc.1.2,QhB,if_pos hc.2]
 ·cases h
theorem QmR (hok:okN L) {u v:Int} (h:ofI L x op=some (u,v)):inG L u∧inG L v∧u<x∧v<x∧val S C L x=doW op (val S C L u) (val S C L v):=by
 unfold ofI at h
 split at h
 ·rename_i hc
  simp only [Option.some.injEq,Prod.mk.injEq] at h
  obtain ⟨rfl,rfl⟩:=h
  obtain ⟨hx,hk,ho⟩:=hc
  have hp:=QPH hok.wf hx.1 hx.2
  have hpt:pts L x=[(nd L x).x,(nd L x).y]:=by
   show (nd L x).parts=_
   simp [Nd.parts,hk]
  rw [hpt] at hp
  have h1:=hp (nd L x).x (by simp)
  have h2:=hp (nd L x).y (by simp)
  unfold inG at *
  refine ⟨by omega,by omega,h1.2,h2.2,?_⟩
  rw [Qrq hok.wf (Qsd hok) hx.1 hx.2,QhB]
  simp [hk,ho]
 ·cases h
theorem Qbg (hok:okN L) {y d:Int} (h:Qfa L x op=some (y,d)):inG L y∧y<x∧i64 d∧val S C L x=doW op (val S C L y) d:=by
 unfold Qfa at h
 cases ho:ofI L x op with
 | none=>rw [ho] at h; cases h
 | some p =>
   obtain ⟨u,v⟩:=p
   rw [ho] at h
   cases hn:Qjg L v with
   | none=>simp [hn] at h
   | some c =>
     simp only [Option.bind_some,hn,Option.map_some,Option.some.injEq,Prod.mk.injEq] at h
     obtain ⟨rfl,rfl⟩:=h
     obtain ⟨h1,h2,h3,h4,h5⟩:=QmR (S:=S) (C:=C) hok ho
     obtain ⟨n1,n2⟩:=QfV (S:=S) (C:=C) hok hn
     exact ⟨h1,h3,n2,by rw [h5,n1]⟩
theorem QDC (hok:okN L) (h:Qvz L x=true):inG L x∧two (val S C L x):=by
 simp only [Qvz,decide_eq_true_eq] at h
 obtain ⟨hx,h⟩:=h
 refine ⟨hx,?_⟩
 rw [Qrq hok.wf (Qsd hok) hx.1 hx.2,QhB]
 rcases h with ⟨hk,ho⟩ | ⟨hk,hn⟩
 ·simp only [hk]
  exact QRp ho
 ·rw [if_pos hk]; exact hn
end Go.Proofs.YtbdhjeojcpgblaaGreatDoor
namespace Go.Proofs.YtbdhjeojcpgblaaGreatDoor
open Go Go.Am
set_option maxRecDepth 100000
variable {S:List Int} {C:List Cl}
set_option maxHeartbeats 1000000
variable {r:GR} {w op x n c y:Int} {L:List Nd}
theorem Made1.after {L1:List Nd} (h:Made1 S C L1 w r) (hp:L <+: L1):Made1 S C L w r:=⟨hp.trans h.pre,h.ok,h.val⟩
theorem Made1.cast {w':Int} (h:Made1 S C L w r) (e:w=w'):Made1 S C L w' r:=e▸h
def Qck (S:List Int) (C:List Cl) (bin:Qhd):Prop:=∀ L op x y r,okN L→inG L x→inG L y→(1≤op∧op≤16)→bin L op x y=some r→Made1 S C L (doW op (val S C L x) (val S C L y)) r∧r.1≠-1
theorem Xp {bin:Qhd} (hb:Qck S C bin) (hok:okN L) (hx:inG L x) (ho:1≤op∧op≤16) (hn:i64 n) (h:QgW bin L op x n=some r):Made1 S C L (doW op (val S C L x) n) r∧r.1≠-1:=by
 obtain ⟨h1,h2⟩:=Qbk (S:=S) (C:=C) hok hn
 obtain ⟨h3,h4⟩:=h1.val h2
 obtain ⟨g1,g2⟩:=QiB h1.pre hx
 obtain ⟨k1,k2⟩:=hb _ _ _ _ _ h1.ok g1 h3 ho h
 rw [h4,Qdu h1.pre hx] at k1
 exact ⟨k1.after h1.pre,k2⟩
theorem Ql0 {r0:Option GR} {k:List Nd→Option GR} (h0:∀ r,r0=some r→Made1 S C L w r) (hk:∀ L' r,L <+: L'→okN L'→k L'=some r→Made1 S C L' w r) (h:Qmu r0 k=some r):Made1 S C L w r:=by
 unfold Qmu at h
 cases hr:r0 with
 | none=>rw [hr] at h; cases h
 | some q =>
   rw [hr] at h
   simp only [Option.bind_some] at h
   have hq:=h0 q hr
   split at h
   ·cases h; exact hq
   ·exact (hk _ _ hq.pre hq.ok h).after hq.pre
theorem ZL (h:-9223372036854775808≤n∧n≤9223372036854775807):i64 n:=h
theorem QEF (hok:okN L) (hx:inG L x) (hv:i64 (val S C L x)):Made1 S C L (doW op (val S C L x) (val S C L x)) (Qk5 L op x):=by
 obtain ⟨d1,d2,d3⟩:=QSJ (op:=op) hv
 unfold Qk5
 split
 ·rename_i h; exact (Qbk hok (ZL (by omega))).1.cast (d1 h).symm
 ·split
  ·rename_i h; exact (Qbk hok (ZL (by omega))).1.cast (d2 h).symm
  ·split
   ·rename_i h; exact Made1.here hok hx (d3 h).symm
   ·exact Made1.none hok _
theorem QCS (hok:okN L) (hx:inG L x) (hv:i64 (val S C L x)):Made1 S C L (doW op (val S C L x) c) (QaJ L op x c):=by
 unfold QaJ
 split
 ·rename_i h; exact Made1.here hok hx (QFH hv h).symm
 ·split
  ·rename_i h; obtain ⟨h,rfl⟩:=h; exact (Qbk hok (ZL (by omega))).1.cast (QsK h).symm
  ·split
   ·rename_i h; obtain ⟨rfl,rfl⟩:=h; exact (Qbk hok (ZL (by omega))).1.cast (QFG _).symm
   ·split
    ·rename_i h; obtain ⟨h,rfl⟩:=h; exact (Qbk hok (ZL (by omega))).1.cast (QSL h).symm
    ·exact Made1.none hok _
theorem QCk {bin:Qhd} (hb:Qck S C bin) (hok:okN L) (hx:inG L x) (hv:i64 (val S C L x)) (hc:i64 c) (h:Qgh bin L op x c=some r):Made1 S C L (doW op (val S C L x) c) r:=by
 unfold Qgh at h
 split at h
 ·rename_i h1; subst h1; exact (Xp hb hok hx (by omega) (Xo _) h).1.cast do_sub.symm
 ·split at h
  ·rename_i h1; subst h1; exact (Xp hb hok hx (by omega) (Xo _) h).1.cast do_shl.symm
  ·split at h
   ·rename_i h1; exact (Xp hb hok hx (by omega) (ZL (by omega)) h).1.cast (QSM h1.1).symm
   ·split at h
    ·rename_i h1
     obtain ⟨rfl,h2⟩:=h1
     obtain ⟨k,hk⟩:=Option.isSome_iff_exists.1 h2
     have hk2:=(Qbt hk).1
     rw [hk] at h
     exact (Xp hb hok hx (by omega) (ZL (by simp; omega)) h).1.cast (QSP hk).symm
    ·split at h
     ·rename_i h1
      obtain ⟨rfl,h2⟩:=h1
      obtain ⟨k,hk⟩:=Option.isSome_iff_exists.1 h2
      exact (Xp hb hok hx (by omega) (Xo _) h).1.cast (QSK hv hc hk).symm
     ·split at h
      ·rename_i h1
       obtain ⟨rfl,rfl⟩:=h1
       exact (Xp hb hok hx (by omega) (ZL (by omega)) h).1.cast (QSN _ hv).symm
      ·cases h; exact Made1.none hok _
theorem QBw {bin:Qhd} (hb:Qck S C bin) (hok:okN L) (hv:i64 (val S C L x)) (hc:i64 c) (h:QeS bin L op x c=some r):Made1 S C L (doW op (val S C L x) c) r:=by
 unfold QeS at h
 split at h
 ·cases h; exact Made1.none hok _
 ·rename_i hbo
  obtain ⟨hx,ht⟩:=QDC (S:=S) (C:=C) hok (by simpa using hbo)
  split at h
  ·rename_i h1
   cases h
   refine Made1.here hok hx ?_
   rcases h1 with ⟨rfl,h2⟩ | ⟨rfl,rfl⟩
   ·rw [QBv ht,if_pos h2]
   ·exact (QRo ht).symm
  ·rename_i hn
   split at h
   ·rename_i h1
    cases h
    refine (Qbk hok (ZL (by omega))).1.cast ?_
    rcases h1 with rfl | ⟨rfl,h2⟩
    ·rw [QBv ht,if_neg fun h=>hn (.inl ⟨rfl,h⟩)]
    ·exact (QRn ht h2 fun h=>hn (.inr ⟨rfl,h⟩)).symm
   ·rename_i hn2
    split at h
    ·rename_i h1
     obtain ⟨rfl,h2⟩:=h1
     cases hr:QgW bin L 16 x 0 with
     | none=>rw [hr] at h; cases h
     | some q =>
       rw [hr] at h
       simp only [Option.bind_some] at h
       obtain ⟨g1,g2⟩:=Xp hb hok hx (by omega) (ZL (by omega)) hr
       obtain ⟨g3,g4⟩:=g1.val g2
       obtain ⟨k1,k2⟩:=Xp hb g1.ok g3 (by omega) (Qgv hc (ZL (by omega))) h
       rw [g4] at k1
       exact (k1.after g1.pre).cast (QRl ht).symm
    ·cases hta:Qfa L x 16 with
     | none=>rw [hta] at h; cases h; exact Made1.none hok _
     | some p =>
       obtain ⟨y,d⟩:=p
       rw [hta] at h
       simp only at h
       split at h
       ·rename_i h1
        cases h
        obtain ⟨rfl,rfl,hby⟩:=h1
        obtain ⟨t1,t2,t3,t4⟩:=Qbg (S:=S) (C:=C) hok hta
        obtain ⟨_,hty⟩:=QDC (S:=S) (C:=C) hok hby
        have hc0:c=0:=Decidable.byContradiction fun h=>hn2 (.inr ⟨rfl,h⟩)
        subst hc0
        refine Made1.here hok t1 ?_
        rw [t4,QEr hty]
       ·cases h; exact Made1.none hok _
theorem QCN {bin:Qhd} (hb:Qck S C bin) (hok:okN L) (ho:1≤op∧op≤16) (hc:i64 c) (h:Qei bin L op x c=some r):Made1 S C L (doW op (val S C L x) c) r:=by
 unfold Qei at h
 cases hta:Qfa L x op with
 | none=>rw [hta] at h; cases h; exact Made1.none hok _
 | some p =>
   obtain ⟨y,d⟩:=p
   rw [hta] at h
   simp only at h
   obtain ⟨t1,t2,t3,t4⟩:=Qbg (S:=S) (C:=C) hok hta
   split at h
   ·rename_i hg
    refine (Xp hb hok t1 ho (Qgv t3 hc) h).1.cast ?_
    rw [t4,QFI hg]
   ·cases h; exact Made1.none hok _
theorem QC0 {bin:Qhd} (hb:Qck S C bin) (hok:okN L) (hv:∀ y,i64 (val S C L y)) (hc:i64 c) (h:Qca bin L op x c=some r):Made1 S C L (doW op (val S C L x) c) r:=by
 unfold Qca at h
 split at h
 ·cases h; exact Made1.none hok _
 rename_i ho
 have ho:op=16:=by simpa using ho
 subst ho
 split at h
 ·rename_i y d hta
  obtain ⟨t1,t2,t3,t4⟩:=Qbg (S:=S) (C:=C) hok hta
  refine (Xp hb hok t1 (by omega) (Xo _) h).1.cast ?_
  rw [t4,QDb (hv _) hc]
 ·split at h
  ·rename_i y d hta
   obtain ⟨t1,t2,t3,t4⟩:=Qbg (S:=S) (C:=C) hok hta
   refine (Xp hb hok t1 (by omega) (Qgv hc t3) h).1.cast ?_
   rw [t4,QsL (hv _) hc]
  ·split at h
   ·rename_i y z hof
    obtain ⟨t1,t2,t3,t4,t5⟩:=QmR (S:=S) (C:=C) hok hof
    split at h
    ·rename_i hc0
     subst hc0
     refine (hb _ _ _ _ _ hok t1 t2 (by omega) h).1.cast ?_
     rw [t5,QxU (hv _) (hv _)]
    ·cases h; exact Made1.none hok _
   ·split at h
    ·rename_i y z hof
     obtain ⟨t1,t2,t3,t4,t5⟩:=QmR (S:=S) (C:=C) hok hof
     split at h
     ·rename_i hc0
      subst hc0
      refine (hb _ _ _ _ _ hok t1 t2 (by omega) h).1.cast ?_
      rw [t5,QDa (hv _) (hv _)]
     ·cases h; exact Made1.none hok _
    ·cases h; exact Made1.none hok _
theorem Qxs {bin:Qhd} (hb:Qck S C bin) (hi:∀ L,okN L→∀ x,i64 (val S C L x)) (hok:okN L) (ho:1≤op∧op≤16) (hx:inG L x) (hc:i64 c) (h:Qjv bin L op x c=some r):Made1 S C L (doW op (val S C L x) c) r:=by
 unfold Qjv at h
 refine Ql0 (fun r hr=>?_) (fun L1 r p1 k1 h=>?_) h
 ·cases hr; exact QCS hok hx (hi _ hok _)
 have e1:=Qdu (S:=S) (C:=C) p1 hx
 have g1:=(QiB p1 hx).1
 rw [← e1]
 refine Ql0 (fun r hr=>?_) (fun L2 r p2 k2 h=>?_) h
 ·exact QCk hb k1 g1 (hi _ k1 _) hc hr
 have e2:=Qdu (S:=S) (C:=C) p2 g1
 have g2:=(QiB p2 g1).1
 rw [← e2]
 refine Ql0 (fun r hr=>?_) (fun L3 r p3 k3 h=>?_) h
 ·exact QBw hb k2 (hi _ k2 _) hc hr
 have e3:=Qdu (S:=S) (C:=C) p3 g2
 have g3:=(QiB p3 g2).1
 rw [← e3]
 refine Ql0 (fun r hr=>?_) (fun L4 r p4 k4 h=>?_) h
 ·exact QCN hb k3 ho hc hr
 have e4:=Qdu (S:=S) (C:=C) p4 g3
 rw [← e4]
 exact QC0 hb k4 (hi _ k4) hc h
theorem QEH {bin:Qhd} (hb:Qck S C bin) (hi:∀ L,okN L→∀ x,i64 (val S C L x)) (hok:okN L) (ho:1≤op∧op≤16) (hx:inG L x) (hy:inG L y) (h:Qjt bin L op x y (Qjg L x) (Qjg L y)=some r):Made1 S C L (doW op (val S C L x) (val S C L y)) r:=by
 unfold Qjt at h
 split at h
 ·rename_i e; subst e; cases h; exact QEF hok hx (hi _ hok _)
 ·split at h
  ·rename_i b hq
   obtain ⟨n1,n2⟩:=QfV (S:=S) (C:=C) hok hq
   rw [n1]
   exact Qxs hb hi hok ho hx n2 h
  ·split at h
   ·rename_i h1
    obtain ⟨hp,rfl⟩:=h1
    obtain ⟨n1,n2⟩:=QfV (S:=S) (C:=C) hok hp
    cases hr:bin L 16 y x with
    | none=>rw [hr] at h; cases h
    | some q =>
      rw [hr] at h
      simp only [Option.bind_some] at h
      obtain ⟨g1,g2⟩:=hb _ _ _ _ _ hok hy hx (by omega) hr
      obtain ⟨g3,g4⟩:=g1.val g2
      have gx:=(QiB g1.pre hx).1
      have k:=(hb _ _ _ _ _ g1.ok g3 gx (by omega) h).1
      rw [g4,Qdu g1.pre hx,n1] at k
      rw [n1,QSO _ (hi _ hok _)]
      exact k.after g1.pre
   ·cases h; exact Made1.none hok _
theorem QEY (ho:1≤op∧op≤16) (hx:inG L x) (hy:inG L y):Nd.may ⟨4,0,0,op,x,y⟩ L.length=true:=by
 unfold inG at *
 simp [Nd.may]
 omega
theorem QCb (hok:okN L) (ho:1≤op∧op≤16) (hx:inG L x) (hy:inG L y):Made1 S C L (doW op (val S C L x) (val S C L y)) (addN L ⟨4,0,0,op,x,y⟩)∧(addN L ⟨4,0,0,op,x,y⟩).1≠-1:=by
 obtain ⟨h1,h2⟩:=QDT (QEY ho hx hy)
 have hok2:okN (addN L ⟨4,0,0,op,x,y⟩).2:=Ql7 hok (show i64 0 by unfold i64; omega) (show i64 0 by unfold i64; omega)
 have hp:L <+: (addN L ⟨4,0,0,op,x,y⟩).2:=Qml _ _
 refine ⟨⟨hp,hok2,fun _=>⟨h1,?_⟩⟩,by have:=h1.1; omega⟩
 rw [Qrq hok2.wf (Qsd hok2) h1.1 h1.2,h2]
 simp [QhB,Qdu hp hx,Qdu hp hy]
theorem Qv7 {bin:Qhd} (hb:Qck S C bin) (hi:∀ L,okN L→∀ x,i64 (val S C L x)) (hok:okN L) (ho:1≤op∧op≤16) (hx:inG L x) (hy:inG L y) (h:Qxd bin L op x y (Qjg L x) (Qjg L y)=some r):Made1 S C L (doW op (val S C L x) (val S C L y)) r∧r.1≠-1:=by
 unfold Qxd Qmu at h
 cases hr:Qjt bin L op x y (Qjg L x) (Qjg L y) with
 | none=>rw [hr] at h; cases h
 | some q =>
   rw [hr] at h
   simp only [Option.bind_some] at h
   have hq:=QEH hb hi hok ho hx hy hr
   split at h
   ·rename_i hne; cases h; exact ⟨hq,hne⟩
   ·cases h
    have gx:=(QiB hq.pre hx).1
    have gy:=(QiB hq.pre hy).1
    obtain ⟨k1,k2⟩:=QCb (S:=S) (C:=C) hq.ok ho gx gy
    rw [Qdu hq.pre hx,Qdu hq.pre hy] at k1
    exact ⟨k1.after hq.pre,k2⟩
theorem QDG (hi:∀ L,okN L→∀ x,i64 (val S C L x)):∀ f,Qck S C (QTT f)
 | 0=>fun L op x y r _ _ _ _ h=>by cases h
 | f+1=>fun L op x y r hok hx hy ho h=>by
   have hb:=QDG hi f
   unfold QTT binR at h
   split at h
   ·rename_i a b ha hbb
    cases h
    obtain ⟨a1,a2⟩:=QfV (S:=S) (C:=C) hok ha
    obtain ⟨b1,b2⟩:=QfV (S:=S) (C:=C) hok hbb
    rw [a1,b1]
    exact Qbk hok (Qgv a2 b2)
   ·split at h
    ·rename_i hs
     rw [QC9 hs.1]
     exact Qv7 hb hi hok ho hy hx h
    ·exact Qv7 hb hi hok ho hx hy h
end Go.Proofs.YtbdhjeojcpgblaaGreatDoor
namespace Go.Proofs.YtbdhjeojcpgblaaGreatDoor
open Go Go.Am
set_option maxRecDepth 100000
set_option maxHeartbeats 1000000
variable {x op:Int} {L:List Nd}
theorem Qvy (h:Qvz L x=true):inG L x:=by
 simp only [Qvz,decide_eq_true_eq] at h
 exact h.1
theorem Qix (L:List Nd) (n:Int):inG (Qdo L n).2 (Qdo L n).1∧Qjg (Qdo L n).2 (Qdo L n).1=some n∧L <+: (Qdo L n).2∧(Qdo L n).1≠-1:=by
 obtain ⟨h1,h2⟩:=QDT (QCa n L.length)
 refine ⟨h1,?_,Qml _ _,?_⟩
 ·show Qjg (addN L _).2 (addN L _).1=some n
  rw [Qjg,if_pos ⟨h1,by rw [h2]⟩,h2]
 ·have:=h1.1
  show (addN L _).1≠-1
  omega
theorem QpP (h:inG L x):x≠-1:=by have:=h.1; omega
theorem in_of (hok:okN L) {u v:Int} (h:ofI L x op=some (u,v)):inG L u∧inG L v∧u<x∧v<x∧Qjg L x=none∧inG L x:=by
 obtain ⟨h1,h2,h3,h4,_⟩:=QmR (S:=[]) (C:=[]) hok h
 unfold ofI at h
 split at h
 ·rename_i hc
  refine ⟨h1,h2,h3,h4,?_,hc.1⟩
  rw [Qjg,if_neg]
  omega
 ·cases h
theorem QSq (hok:okN L) {y d:Int} (h:Qfa L x op=some (y,d)):inG L y∧y<x∧i64 d∧Qjg L x=none∧inG L x:=by
 obtain ⟨h1,h2,h3,_⟩:=Qbg (S:=[]) (C:=[]) hok h
 unfold Qfa at h
 cases ho:ofI L x op with
 | none=>rw [ho] at h; cases h
 | some p =>
   obtain ⟨u,v⟩:=p
   obtain ⟨_,_,_,_,h5,h6⟩:=in_of hok ho
   exact ⟨h1,h2,h3,h5,h6⟩
def depF (T:List Nat) (d:Nd):Nat:=if d.kind=1 then 0 else if d.kind=4 then 1+max (T.getD d.x.toNat 0) (T.getD d.y.toNat 0) else 1
def depL (L:List Nd):List Nat:=L.foldl (fun T d=>T++[depF T d]) []
def wt (L:List Nd) (x:Int):Nat:=(depL L).getD x.toNat 0
def hard (op:Int):Nat:=if op=2∨op=6∨op=7∨op=11∨op=15∨op=12∨op=13 then 1 else 0
def Ends (bin:Qhd) (N:Nat):Prop:=∀ L op x y,okN L→inG L x→inG L y→(1≤op∧op≤16)→2 * max (wt L x) (wt L y)+hard op<N→(bin L op x y).isSome=true
def QvQ (L:List Nd) (r:GR):Prop:=r.1≠-1∨r=(-1,L)
theorem Qpa {c:Int} (hx:inG L x):QvQ L (QaJ L op x c):=by
 have h0:=(Qix L 0).2.2.2
 have h1:=(Qix L (-1)).2.2.2
 unfold QaJ
 split
 ·exact .inl (QpP hx)
 ·split
  ·exact .inl h0
  ·split
   ·exact .inl h1
   ·split
    ·exact .inl h0
    ·exact .inr rfl
section
variable {bin:Qhd} {r:GR} {op x c:Int} {L:List Nd}
theorem Qo3 (hb:Qck [] [] bin) (hok:okN L) (hx:inG L x) (hc:i64 c) (h:Qgh bin L op x c=some r):QvQ L r:=by
 unfold Qgh at h
 split at h
 ·exact .inl (Xp hb hok hx (by omega) (Xo _) h).2
 ·split at h
  ·exact .inl (Xp hb hok hx (by omega) (Xo _) h).2
  ·split at h
   ·rename_i h1; exact .inl (Xp hb hok hx (by omega) (ZL (by omega)) h).2
   ·split at h
    ·rename_i h1
     obtain ⟨k,hk⟩:=Option.isSome_iff_exists.1 h1.2
     have hk2:=(Qbt hk).1
     rw [hk] at h
     exact .inl (Xp hb hok hx (by omega) (ZL (by simp; omega)) h).2
    ·split at h
     ·exact .inl (Xp hb hok hx (by omega) (Xo _) h).2
     ·split at h
      ·exact .inl (Xp hb hok hx (by omega) (ZL (by omega)) h).2
      ·cases h; exact .inr rfl
theorem QoF (hb:Qck [] [] bin) (hok:okN L) (hc:i64 c) (h:QeS bin L op x c=some r):QvQ L r:=by
 unfold QeS at h
 split at h
 ·cases h; exact .inr rfl
 ·rename_i hbo
  have hx:=Qvy (by simpa using hbo:Qvz L x=true)
  split at h
  ·cases h; exact .inl (QpP hx)
  ·split at h
   ·cases h; exact .inl (Qix L 0).2.2.2
   ·split at h
    ·cases hr:QgW bin L 16 x 0 with
     | none=>rw [hr] at h; cases h
     | some q =>
       rw [hr] at h
       simp only [Option.bind_some] at h
       obtain ⟨g1,g2⟩:=Xp hb hok hx (by omega) (ZL (by omega)) hr
       exact .inl (Xp hb g1.ok (g1.val g2).1 (by omega) (Qgv hc (ZL (by omega))) h).2
    ·split at h
     ·split at h
      ·rename_i h1; cases h; exact .inl (QpP (Qvy h1.2.2))
      ·cases h; exact .inr rfl
     ·cases h; exact .inr rfl
theorem Qo9 (hb:Qck [] [] bin) (hok:okN L) (ho:1≤op∧op≤16) (hc:i64 c) (h:Qei bin L op x c=some r):QvQ L r:=by
 unfold Qei at h
 split at h
 ·rename_i y d hta
  obtain ⟨t1,t2,t3,_⟩:=QSq hok hta
  split at h
  ·exact .inl (Xp hb hok t1 ho (Qgv t3 hc) h).2
  ·cases h; exact .inr rfl
 ·cases h; exact .inr rfl
end
variable {P:Program} {G:Nat→Option V}
section
attribute [local go_sem] Bool.not_false Bool.not_true List.cons_append List.length_cons List.length_nil List.nil_append Nat.le_refl Nat.zero_add and_true envV kG_5 QiR Qh true_and
def inL (L:List Nd) (ids:List Int):Prop:=∀ x∈ids,0≤x∧x<L.length
instance {L:List Nd} {ids:List Int}:Decidable (inL L ids):=by unfold inL; infer_instance
def ofV (S:List Int) (C:List Cl) (L:List Nd) (x:Int):V:=if 0≤x∧x<L.length then .tup [.int .i64 (val S C L x),.bool true] else .tup [.int .i64 0,.bool false]
end
end Go.Proofs.YtbdhjeojcpgblaaGreatDoor
