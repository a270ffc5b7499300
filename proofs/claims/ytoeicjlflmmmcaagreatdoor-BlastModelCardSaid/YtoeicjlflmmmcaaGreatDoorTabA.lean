/- The translations of the functions, by a program of mine. -/
import Derived.Test.YtoeicjlflmmmcaaGreatDoorAmD
namespace Go.Proofs.YtoeicjlflmmmcaaGreatDoor
open Go Go.Am
set_option maxRecDepth 100000
set_option maxHeartbeats 4000000
def ump {α β:Type} (g:α→β) (x:Nat→α×Nat) (N:Nat):β×Nat:=match x N with | (a,M)=>(g a,M)
def ubd {α β:Type} (x:Nat→α×Nat) (f:α→Nat→β×Nat) (N:Nat):β×Nat:=match x N with | (a,M)=>f a M
def udg (r N:Nat):Nat×Nat:=(N%r,N/r)
def unt (N:Nat):Nat×Nat:=if N%64<60 then (N%64,N/64) else (N/64%2^(16*(N%64-59)),N/64/2^(16*(N%64-59)))
def uls {α:Type} (x:Nat→α×Nat):Nat→Nat→List α×Nat
 | 0,N=>([],N)
 | k+1,N=>ubd x (fun a=>ump (a::·) (uls x k)) N
def uli {α:Type} (x:Nat→α×Nat):Nat→List α×Nat:=ubd unt fun k=>uls x k
def uoo {α:Type} (x:Nat→α×Nat) (N:Nat):Option α×Nat:=if N%2=0 then (none,N/2) else ump some x (N/2)
def ubo (N:Nat):Bool×Nat:=(N%2==1,N/2)
def uix {α:Type} [Inhabited α] (l:List α) (N:Nat):α×Nat:=(l.getD (N%l.length) default,N/l.length)
def uik:Nat→IntKind×Nat:=uix [.i64,.u8,.u32,.u64,.i32,.u16,.i16,.i8]
def ukd (N:Nat):Kd×Nat:=(match N%3 with | 0=>.i | 1=>.b | _=>.s,N/3)
def uv0 (N:Nat):V×Nat:=(ubd uik fun k=>ubd ubo fun s=>ump (fun n:Nat=>.int k (if s then -(n:Int) else (n:Int))) unt) N
def uv4 (N:Nat):V×Nat:=ump (fun n=>.fn (.func n) [] []) unt N
def uv5 (N:Nat):V×Nat:=ump (fun l:List Nat=>.str (l.map UInt8.ofNat)) (uli unt) N
def uv6 (N:Nat):V×Nat:=(match N%4 with | 0=>.val (.pointer none) | 1=>.val (.map none) | 2=>.val .nilFunc | _=>.val .nilIface,N/4)
def uv7 (N:Nat):V×Nat:=(.int .i64 ((N%16:Nat):Int),N/16)
def uV (N:Nat):V×Nat:=match N%8 with
 | 7=>uv7 (N/8)
 | 0=>uv0 (N/8)
 | 1=>(.bool false,N/8)
 | 2=>(.bool true,N/8)
 | 3=>(.lst 0 [] true,N/8)
 | 4=>uv4 (N/8)
 | 5=>uv5 (N/8)
 | _=>uv6 (N/8)
def uvs:Nat→List V×Nat:=ump List.flatten (uli (ubd unt fun k=>ump (List.replicate k) uV))
def uA (R N:Nat):Arg×Nat:=if N%(R+2)<R then (.t (N%(R+2)),N/(R+2)) else if N%(R+2)=R then ump .c uV (N/(R+2)) else ump .g unt (N/(R+2))
def uB (R D N:Nat):Arg×Nat:=if N%3<2 then (.t (D-1-N%3),N/3) else uA R (N/3)
def upt (R D:Nat):Nat→(Nat×Nat×Arg)×Nat:=ubd unt fun a=>ubd unt fun b=>ump (a,b,·) (uB R D)
def uO0 (R D m N:Nat):AOp×Nat:=
 if m=0 then ump .mov (uA R) N else
 if m=1 then (ubd (ubo) fun a=>ubd (unt) fun b=>ump (.load a b) (uB R D)) N else
 if m=2 then (ubd (ubo) fun a=>ubd (unt) fun b=>ump (.loadi a b) (uB R D)) N else
 if m=3 then (ubd (uix [.add,.sub,.mul,.quo,.rem,.and,.or,.xor,.shl,.shr,.andNot,.eql,.neq,.lss,.leq,.gtr,.geq]) fun a=>ubd (uB R D) fun b=>ump (.bin a b) (uB R D)) N else
 if m=4 then (ubd (uoo unt) fun a=>ubd (unt) fun b=>ubd (uB R D) fun c=>ump (.iaddr a b c) (uB R D)) N else
 (ubd (unt) fun a=>ump (.faddr a) (uB R D)) N
def uO1 (R D m N:Nat):AOp×Nat:=
 if m=6 then (ubd (uB R D) fun a=>ubd (uB R D) fun b=>ump (.pick a b) (uB R D)) N else
 if m=7 then (ubd (unt) fun a=>ubd (uB R D) fun b=>ump (.store a b) (uB R D)) N else
 if m=8 then (ubd (uvs) fun a=>ump (.build a) (uli (upt R D))) N else
 if m=9 then (ubd (unt) fun a=>ump (.new a) (uvs)) N else
 if m=10 then (ubd (unt) fun a=>ump (.len a) (uB R D)) N else
 (ubd (uB R D) fun a=>ump (.extr a) (unt)) N
def uO2 (R D m N:Nat):AOp×Nat:=
 if m=12 then (ubd (ubo) fun a=>ubd (ubo) fun b=>ubd (unt) fun c=>ubd (unt) fun d=>ubd (uvs) fun e=>ubd (unt) fun f=>ump (.bsl a b c d e f) (uli (upt R D))) N else
 if m=13 then (ubd (uix [.neg,.xor,.not,.plus]) fun a=>ump (.un a) (uB R D)) N else
 if m=14 then (ubd (unt) fun a=>ump (.box a) (uB R D)) N else
 if m=15 then ump .nilc (uB R D) N else
 if m=16 then (ubd (uik) fun a=>ump (.conv a) (uB R D)) N else
 (ubd (ubo) fun a=>ubd (uB R D) fun b=>ump (.eqb a b) (uB R D)) N
def uO3 (R D m N:Nat):AOp×Nat:=
 if m=18 then (ubd (ubo) fun a=>ubd (uB R D) fun b=>ump (.eqp a b) (uB R D)) N else
 if m=19 then (ubd (unt) fun a=>ubd (unt) fun b=>ubd (unt) fun c=>ubd (ubo) fun d=>ubd (uB R D) fun e=>ump (.app a b c d e) (uB R D)) N else
 if m=20 then (ubd (unt) fun a=>ubd (uB R D) fun b=>ubd (uoo (uB R D)) fun c=>ubd (uoo (uB R D)) fun d=>ump (.slc a b c d) (uoo (uB R D))) N else
 if m=21 then (ubd (uB R D) fun a=>ump (.sidx a) (uB R D)) N else
 if m=22 then (ubd (ump Fn.func unt) fun a=>ubd (uli (uB R D)) fun b=>ump (.mkfn a b) (uli (uB R D))) N else
 (ubd (ubo) fun a=>ubd (uli ukd) fun b=>ubd (uB R D) fun c=>ubd (uB R D) fun d=>ump (.mapup a b c d) (uB R D)) N
def uO4 (R D m N:Nat):AOp×Nat:=
 if m=24 then (ubd (ubo) fun a=>ubd (ubo) fun b=>ubd (uli ukd) fun c=>ubd (uV) fun d=>ubd (uB R D) fun e=>ump (.look a b c d e) (uB R D)) N else
 if m=25 then (ubd (ubo) fun a=>ubd (uli ukd) fun b=>ubd (uB R D) fun c=>ump (.eqs a b c) (uB R D)) N else
 if m=26 then (ubd (uB R D) fun a=>ump (.maxi a) (uB R D)) N else
 if m=27 then (ubd (uB R D) fun a=>ump (.mini a) (uB R D)) N else
 if m=28 then (ubd (uB R D) fun a=>ubd (uB R D) fun b=>ump (.max3 a b) (uB R D)) N else
 (ubd (unt) fun a=>ubd (uvs) fun b=>ump (.clr a b) (uB R D)) N
def uO5 (R D m N:Nat):AOp×Nat:=
 if m=30 then (ubd (unt) fun a=>ubd (unt) fun b=>ubd (uB R D) fun c=>ubd (uoo (uB R D)) fun d=>ump (.slarr a b c d) (uoo (uB R D))) N else
 if m=31 then (ubd (unt) fun a=>ubd (unt) fun b=>ubd (unt) fun c=>ubd (uvs) fun d=>ubd (uB R D) fun e=>ump (.mksl a b c d e) (uB R D)) N else
 if m=32 then (.mkmap,N) else
 if m=33 then (ubd (ubo) fun a=>ubd (uli ukd) fun b=>ubd (uV) fun c=>ubd (uB R D) fun d=>ump (.ment a b c d) (uB R D)) N else
 if m=34 then (ubd (uB R D) fun a=>ubd (uB R D) fun b=>ump (.mst a b) (uB R D)) N else
 ump .tostr (uB R D) N
def uO6 (R D m N:Nat):AOp×Nat:=
 if m=36 then ump .same (uB R D) N else
 if m=37 then ump .iter (uB R D) N else
 if m=38 then ump .next (uB R D) N else
 if m=39 then ump .entry (uB R D) N else
 if m=40 then (ubd (ubo) fun a=>ubd (unt) fun b=>ubd (unt) fun c=>ubd (uB R D) fun d=>ump (.aidx a b c d) (uB R D)) N else
 (ubd (uB R D) fun a=>ubd (uoo (uB R D)) fun b=>ump (.ssl a b) (uoo (uB R D))) N
def uO7 (R D m N:Nat):AOp×Nat:=
 if m=42 then (ubd (ubo) fun a=>ubd (unt) fun b=>ubd (unt) fun c=>ump (.field a b c) (uB R D)) N else
 if m=43 then (ubd (unt) fun a=>ubd (ubo) fun b=>ubd (uB R D) fun c=>ump (.copy a b c) (uB R D)) N else
 if m=44 then (ubd (unt) fun a=>ubd (unt) fun b=>ubd (ubo) fun c=>ubd (uB R D) fun d=>ump (.appin a b c d) (uB R D)) N else
 (ubd (unt) fun a=>ump (.tobytes a) (uB R D)) N
def uO (R D N:Nat):AOp×Nat:=
 if N%46<6 then uO0 R D (N%46) (N/46) else
 if N%46<12 then uO1 R D (N%46) (N/46) else
 if N%46<18 then uO2 R D (N%46) (N/46) else
 if N%46<24 then uO3 R D (N%46) (N/46) else
 if N%46<30 then uO4 R D (N%46) (N/46) else
 if N%46<36 then uO5 R D (N%46) (N/46) else
 if N%46<42 then uO6 R D (N%46) (N/46) else
 uO7 R D (N%46) (N/46)
def uds (R k D N:Nat):(Option Nat×Nat)×Nat:=match k with
 | 0=>((some D,D+1),N)
 | 1=>((some (N%R),max D (N%R+1)),N/R)
 | _=>((none,D),N)
def ugd (R k:Nat) (g:Option (Nat×Bool)) (N:Nat):(Option (Nat×Bool)×Option (Nat×Bool))×Nat:=match k with
 | 0=>((none,g),N)
 | 1=>((g,g),N)
 | _=>((some (N%R,N/R%2==1),some (N%R,N/R%2==1)),N/R/2)
def uT (R:Nat):Nat→Nat→Nat→Option (Nat×Bool)→AT→Nat→AT×Nat
 | 0,_,_,_,e,N=>(e,N)
 | f+1,k,D,g,e,N=>
  if k=0 then (e,N)
  else match N%28/9 with
  | 3=>(ubd unt fun a=>ubd (uT R f a D g e) fun T=>ubd unt fun b=>ubd (uT R f b D g T) fun s=>ubd unt fun c=>ump (.alt s) (uT R f c D g T)) (N/28)
  | 0=>(ubd (uds R (N%28%3) D) fun d=>ubd (ugd R (N%28/3%3) g) fun h=>ubd (uO R D) fun o=>ump (.rd d.1 h.1 o) (uT R f (k-1) d.2 h.2 e)) (N/28)
  | 1=>(ubd ubo fun m=>ubd (uds R (N%28%3) D) fun d=>ubd (ugd R (N%28/3%3) g) fun h=>ubd (uO R D) fun o=>ump (.wr m d.1 h.1 o) (uT R f (k-1) d.2 h.2 e)) (N/28)
  | _=>(ubd ubo fun m=>ubd (uds R (N%28%3) D) fun d=>ubd (ugd R (N%28/3%3) g) fun h=>ubd (uB R D) fun x=>ubd (uli (uA R)) fun l=>ump (.cl m d.1 h.1 x l) (uT R f (k-1) d.2 h.2 e)) (N/28)
def uae (N:Nat) (e:AT):AT:=(ubd (uix [24,40,64,96,128,192,288,600]) (fun R=>ubd (udg R) fun D=>ubd unt fun k=>uT R 999 k D none e) N).1
@[go_sem] abbrev mkt (N:Nat) {a b:AT} (_:uae N .done=a:=by cbv) (_:a=b:=by first | (simp only [Int.reduceOfNat,Int.reduceNegSucc,UInt8.reduceOfNat]; exact rfl) | exact rfl):AT:=b
@[go_sem] abbrev mke (N:Nat) (e:AT) {f g:AT→AT} (_:∀ e,uae N e=f e:=by intro e; cbv) (_:∀ e,f e=g e:=by intro e; first | (simp only [Int.reduceOfNat,Int.reduceNegSucc,UInt8.reduceOfNat]; exact rfl) | exact rfl):AT:=g e
abbrev zw (a:Nat) (x y:AC):AC:=.cond (.t a) x y
abbrev zg (a:AT) (l:List Nat) (r:AC):AC:=.seq (.reg a l) r
def zq0_0:AT:=mkt 0x363ce1a47e2b1a8
def zq0_1:AT:=mkt 0x2b09b99329eb8a2a58cc84282200942
def zq0_2:AT:=mkt 0x2574e64587b610562
def zq0_3:AT:=mkt 0x163673a48a4ab83fbb087996685d189438597856100f72
def zq0_4:AT:=mkt 0xe84d9e1050a33240b40792
def zq0_5:AT:=mkt 0xc2550120
def QrK:AT:=mkt 0xf92734addff760fd9ad97009a2
def QrJ:AT:=mkt 0x1b076f9d5e4cd06e3eefc1e7a25c6fc72249f964114b4251289285ad5f668730fd421aa413da
def QrI:AT:=mkt 0x6974189490e8f0789b36931fbbf91f4353e3d9abaa013b7e81cbdcd71bf9e91a03
def QrH:AT:=mkt 0x8195bc58bcef9602420c3af1dc99fb19b8866ce8cce83c7821a4b
def Qlb:AT:=mkt 0xf8aa607428f245304c0c6f847601ebb301473
def Qla:AT:=mkt 0x12066092f3fdb74dd007c2
def QBj:AT:=mkt 0xc2550148
def Qk9:AT:=mkt 0xb40dde41f182cea13627f060e9b
def Qk8:AT:=mkt 0x9e31c129fb36b451f7ad9f2805acd0f57e4b088418cda7b621ad3
def Qk7:AT:=mkt 0x62f6799462ac073e8c5f24dea3741dbffc9a70ee9f581efc
def Qk6:AT:=mkt 0x2f2b0100
def Qk5:AT:=mkt 0x8a0b1be6dadef9de960bbb
def QBi:AT:=mkt 0x3282c36e598a8b23d2d9a066df6a0a82b41fb8afdec468c46b74fc4362b9bf619490902b34
def QBh:AT:=mkt 0x1e63c2c4d85f459afe6690baa393d4810915fa8bc16edc50358237c
def QBg:AT:=mkt 0x29d41257bf56f35355ad862bdf915d448572316a18f488066f1a7095827ac
def QBf:AT:=mkt 0x844da3b33d1357608a3da814c39813dc
def QBe:AT:=mkt 0x38cc92bc63742b915a6bb3d47500cef7813f4
def QBd:AT:=mkt 0x13a1408057dced311faa1c1605
def QBc:AT:=mke 0xd8ddfaf36f3f600c61936d34179f423fd3b064a1247e8615415d2d322134401d (mkt 0x238282fa86297e3acacd314c4affa0277498226d)
def QBb:AT:=mke 0x2376d4a236aa6b315fc4001a854d40b3ba4e40119b9e059ee9134408d (mkt 0x78825dc842e6ae63b1e3633b71ce71afdfc6f925268068a9eca5c659fbfbcf3add)
def QBa:AT:=mkt 0x2f2b0100
def QA9:AT:=mkt 0x27bbeaed75810d6cd9bda006168e42cd539842325
def QA8:AT:=mkt 0x20d230229
def Qk4:AT:=mkt 0x2b395adc909cd0835ea863c9c1d3d
def Qk3:AT:=mkt 0x94cdfa792df155e7ce38cd386aa447395d30be10920abf39306985ef3e24c3b75
def Qk2:AT:=mkt 0x9a9fb4bd27c868969cd5e6d9ef8dd79950ec7958666656a58e8191599c24c3bad
def Qk1:AT:=mkt 0x1b24affbf0976e1268b26259402d0d91a0fb113130b0d5cf0b303a64de6
def Qk0:AT:=mkt 0x7c433de36895265448e16662793e200d0939994225b1e64504f0c6f86a4600e
def QkZ:AT:=mkt 0x2f2b0100
def QkY:AT:=mkt 0x10853c86322bddd621bc175d
def QA7:AT:=mkt 0x11e25ec1b474f76dc7ce95732411aebba40139165218118de6f90d8e57a73e725766
def QA6:AT:=mkt 0x127bb6c4c3173175f8aee5998bd2533856cf921f43b30d2c57a263686bc23e72579e
def QA5:AT:=mke 0x51f3460789a0e600fe1e3fcb1c1a6ab59e808e8ec5caa8b97f147df8a206d8cc9ecc60ce (mkt 0x1f41a5f07cc44e0d0ae964959dd42b1ecf3f945576caa9afaf401e092ced81e)
def QW:AF:=⟨235,[.tmp 8],
 (zg zq0_0 []
 (.seq (zg zq0_1 [40,41,42]
 (zw 43
 (zg zq0_2 [44]
 .ret)
 .skip))
 (zg zq0_3 [46,47,45,48,49,10]
 (zg zq0_4 [50,51]
 (.seq (zg zq0_5 []
 (.block 0 (.loop (.seq (zg QrK [52,53,54]
 (zw 55
 .skip
 (.exit 0)))
 (.seq (.block 1 (zg QrJ [59,60,61,58,62,63,14]
 (zg QrI [64,65,66,67,68,69,70]
 (zw 71
 (zg QrH [73,74,75,72,76,77,15]
 (zg Qlb [78,79,80,81,82]
 .ret))
 .skip))))
 (.reg Qla [56,57]))))))
 (.seq (zg QBj []
 (.block 2 (.loop (.seq (zg Qk9 [83,84,85]
 (zw 86
 .skip
 (.exit 2)))
 (.seq (.block 3 (zg Qk8 [90,91,92,89,93,94]
 (zg Qk7 [95,96,97,98,99,100]
 (zw 101
 (zg Qk6 []
 .ret)
 .skip))))
 (.reg Qk5 [87,88]))))))
 (zg QBi [102,103,104,105,106,107,108,109]
 (zg QBh [111,112,113,110,114,115]
 (zg QBg [117,118,119,120,116,121,122]
 (zg QBf [123,124,125]
 (zg QBe [126,127]
 (.seq (zg QBd [128,129]
 (zw 130
 (zg QBc [131,132,133,134,135,136,137,138,139,140,141,142,143,144]
 .ret)
 .skip))
 (.seq (zg QBb [145,146,147,148,149,150,151,152,153,154,155,156,157,158,159,160,161,162]
 (zw 163
 (zg QBa []
 .ret)
 .skip))
 (zg QA9 [164,165,166]
 (.seq (zg QA8 []
 (.block 4 (.loop (.seq (zg Qk4 [167,168,169]
 (zw 170
 .skip
 (.exit 4)))
 (.seq (.block 5 (zg Qk3 [174,175,176,177,173,178,179,31]
 (zg Qk2 [181,182,183,184,180,185,186,33]
 (zg Qk1 [188,189,190,187,191,192,35]
 (zg Qk0 [193,194,195,196,197,198,199,200,201]
 (zw 202
 (zg QkZ []
 .ret)
 .skip))))))
 (.reg QkY [171,172]))))))
 (zg QA7 [204,205,206,207,203,208,209,37]
 (zg QA6 [211,212,213,214,210,215,216,39]
 (zg QA5 [217,218,219,220,221,222,223,224,225,226,227,228,229,230,231,232,233,234]
 .ret))))))))))))))))))⟩
abbrev Y4:Nat:=3
abbrev Qit:Nat:=4
def zq2_0:AT:=mkt 0x363c60dfbe2b1a0
def zq2_1:AT:=mkt 0xc25500f8
def zq2_2:AT:=mkt 0xc2550100
def zq2_3:AT:=mkt 0x1d65ea7b929b3d00c0348
def zq2_4:AT:=mkt 0xecc051bf28b22a9c892b5d78eb8c004f8
def zq2_5:AT:=mkt 0x26e026a5d03d0d4682e8
def zq2_6:AT:=mkt 0x18bea5332c97ae3802a8
def zq2_7:AT:=mke 0xa0821ad63c4470b8eef251ae52d60dda4a4936a27d6772e9c98c014ba (mkt 0x50d6ee1ac3125a245d48bec2b51ec8bcf06d4384aeddc2f7efaef9ca340aa0f8fb335c2f3f39035170a)
def Yf:AF:=⟨43,[.tmp 6],
 (zg zq2_0 []
 (zg zq2_1 []
 (.seq (zg zq2_2 []
 (.block 0 (.loop (.seq (zg zq2_3 [9,10,11]
 (zw 12
 .skip
 (.exit 0)))
 (.seq (.block 1 (zg zq2_4 [15,16,17,18,19]
 (zw 20
 (.reg zq2_5 [21,22])
 .skip)))
 (.reg zq2_6 [13,14]))))))
 (zg zq2_7 [23,24,25,26,27,28,29,30,31,32,33,34,35,36,37,38,39,40,41,42]
 .ret))))⟩
abbrev QaH:Nat:=5
def zq3_0:AT:=mkt 0x2f2b00c0
def zq3_1:AT:=mkt 0x7d7afb0e8f42f084668bf901c8b81f93d44ff73e7003715ab19978f15a1a7a49a73229010e82fd90221a6f3f4b7e55ffd912798b34388fc12c92ae720d11798aca172b3642a187fcf519eda5de114e6441d246418556587d5b49a0b2b838eddeb83ad54ac277ac63fb10678ffb10679005008a0
def zq3_2:AT:=mkt 0xd2887a3616877d7f82e0
def zq3_3:AT:=mkt 0x2931d6b735c10d15f1fe1b6164f0e20346142c27a0c89df2a1607a87478d39
def zq3_4:AT:=mkt 0x3d7c1c54c71bff98acaef58febc0492eb42e939722a0539ebea263ae397a5e7e8d4dece8273f80c1afa
def zq3_5:AT:=mkt 0xa0459daccca5467cee7a6514b6f0d68d716bb0c60cd8190287c29dd3f80c1552
def zq3_6:AT:=mkt 0x380a89e8546950ec35043a5b2528948b9fa4d51cc66170bfb6d40b8a
def zq3_7:AT:=mke 0x10265e2fa75e1ab4767eac56a4f9c6df9ff0bcf233a73fdf1b3e1fab (mke 0x1640ae6401381bc2cf2b05d57971e9cdd0919316977b71a186bfb6b3a3bfba604aa1ffb (mkt 0x1061ce534b8e2517b33d6b51f003080376bd7b7914b))
def XG:AF:=⟨77,[.tmp 0],
 (zg zq3_0 []
 (zg zq3_1 [12,13,14,15,16,17,11,18,19]
 (zg zq3_2 [20,21]
 (zg zq3_3 [23,24,25,26,27,22,28,29]
 (zg zq3_4 [31,32,33,34,35,36,37,38,30,39,40]
 (zg zq3_5 [42,43,44,45,46,41,47,48]
 (zg zq3_6 [49,50,51,52]
 (zg zq3_7 [53,54,55,56,57,58,59,60,61,62,63,64,65,66,67,68,69,70,71,72,73,74,75,76]
 .ret))))))))⟩
abbrev Z8:Nat:=6
def QCx:AT:=mkt 0x62564b3ce0190
def QCw:AT:=mkt 0x548c6a4294861b8
def QCv:AT:=mkt 0x603900e8
def QCu:AT:=mkt 0xc25500f0
def QCt:AT:=mkt 0x1a6f790756b30ce290340
def QCs:AT:=mkt 0x229e9fba889c9ce55a15e335d78d6e7cb9a04a2fe010fe5df568a98eded760719787f0
def QCr:AT:=mkt 0x16f9962d22f06c5502a0
def QCq:AT:=mkt 0x84a60f19d7ed14300205b9
def XP:AF:=⟨25,[.tmp 2,.tmp 3],
 (zg QCx []
 (zg QCw [7]
 (zg QCv []
 (.seq (zg QCu []
 (.block 0 (.loop (.seq (zg QCt [8,9,10]
 (zw 11
 .skip
 (.exit 0)))
 (.seq (.block 1 (.reg QCs [14,15,16,17,18,19,20,21,22]))
 (.reg QCr [12,13]))))))
 (zg QCq [23,24]
 .ret)))))⟩
abbrev ZG:Nat:=7
def zq5_0:AT:=mkt 0xa9ce00d0
def zq5_1:AT:=mkt 0x61fcb7d2801a0
def zq5_2:AT:=mkt 0xa9ce00d0
def zq5_3:AT:=mkt 0x253b73fcc460a4448c6c7614ed2c7bc625b565f9d03e80c9c330787af04b0
def zq5_4:AT:=mkt 0x7c15ca4088127a21653f82f1e69a1b46759eba69b4b8875f856bca8ba3d14c8dade660be35edc614195ac1f2e1e59aca1d8c567a0f3c8898
def zq5_5:AT:=mkt 0x5ce29bb183f73ca4770efe31fdd3d5f3382e8
def zq5_6:AT:=mkt 0x4ddf486b88341
def QdH:AF:=⟨25,[.tmp 2],
 (zg zq5_0 []
 (.seq (zg zq5_1 [4]
 (zw 5
 (zg zq5_2 []
 .ret)
 .skip))
 (zg zq5_3 [6,7,8,9,10]
 (zg zq5_4 [11,12,13,14,15,16,17,18,19,20]
 (zg zq5_5 [21,22,23]
 (zg zq5_6 [24]
 .ret))))))⟩
abbrev QeX:Nat:=8
def zq6_0:AT:=mkt 0xc25500d0
def zq6_1:AT:=mkt 0x61fcb7d280198
def zq6_2:AT:=mkt 0xc25500d0
def zq6_3:AT:=mkt 0x293d2d6e7093a223e449ad55c04a8
def Y0:AF:=⟨10,[.tmp 2],
 (zg zq6_0 []
 (.seq (zg zq6_1 [3]
 (zw 4
 (zg zq6_2 []
 .ret)
 .skip))
 (zg zq6_3 [5,6,7,8,9]
 .ret)))⟩
abbrev Zg:Nat:=9
def zq7_0:AT:=mkt 0x1daa0ca8833c7fd8833c805cf531a0
def zq7_1:AT:=mkt 0xcaadb1c403dbe9cee980330
def zq7_2:AT:=mkt 0x3329b8a13210bcb510678ffb1067900500290
def zq7_3:AT:=mkt 0x485d4fce1cdb5b55f15f6cd3675dec7fa909ad55c0718
def Y1:AF:=⟨18,[.cell 4 true 6,.tmp 5],
 (zg zq7_0 []
 (.seq (zg zq7_1 [6,7,8]
 (zw 9
 (zg zq7_2 [10]
 .ret)
 .skip))
 (zg zq7_3 [11,12,13,14,15,16,17]
 .ret)))⟩
abbrev XR:Nat:=10
def zq8_0:AT:=mkt 0xc0d1a7b901a0
def zq8_1:AT:=mkt 0xcaae66334f7291046980338
def zq8_2:AT:=mkt 0xc0d1a7b901a0
def zq8_3:AT:=mke 0xcf333178266b12aa5c0418 (.rd (some 16) none (.look false false [.i] (.agg [(.int .i64 0),(.int .i64 0),(.int .i64 0),(.int .i64 0),(.int .i64 0),(.int .i64 0),(.int .i64 0),(.int .i64 0),(.int .i64 0),(.int .i64 0),(.int .i64 0),(.int .i64 0),(.int .i64 0),(.int .i64 0),(.int .i64 0),(.int .i64 0),(.int .i64 0),(.int .i64 0),(.int .i64 0),(.int .i64 0),(.int .i64 0),(.int .i64 0),(.int .i64 0),(.int .i64 0),(.int .i64 0),(.int .i64 0),(.int .i64 0),(.int .i64 0),(.int .i64 0),(.int .i64 0),(.int .i64 0),(.int .i64 0),(.int .i64 0),(.int .i64 0),(.int .i64 0),(.int .i64 0),(.int .i64 0),(.int .i64 0),(.int .i64 0),(.int .i64 0),(.int .i64 0),(.int .i64 0),(.int .i64 0),(.int .i64 0),(.int .i64 0),(.int .i64 0),(.int .i64 0),(.int .i64 0),(.int .i64 0),(.int .i64 0),(.int .i64 0),(.int .i64 0),(.int .i64 0),(.int .i64 0),(.int .i64 0),(.int .i64 0),(.int .i64 0),(.int .i64 0),(.int .i64 0),(.int .i64 0),(.int .i64 0),(.int .i64 0),(.int .i64 0),(.int .i64 0)]) (.t 14) (.t 15))
 (.wr false (some 6) none (.new 85 (List.replicate 64 [(.int .i64 0)]).flatten)
 (.wr false none none (.store 64 (.t 6) (.t 16))
 .done)))
def zq8_4:AT:=mkt 0x1b5f891ddfa73fb69050f89c6f51378388
def XC:AF:=⟨19,[.tmp 4,.tmp 5],
 (zg zq8_0 []
 (.seq (zg zq8_1 [7,8,9]
 (zw 10
 (zg zq8_2 []
 .ret)
 .skip))
 (zg zq8_3 [11,12,13,14,15,16]
 (zg zq8_4 [17,18]
 .ret))))⟩
abbrev Xg:Nat:=11
def zq9_0:AT:=mkt 0xc25500e0
def zq9_1:AT:=mkt 0x3b9100d32d81a8
def zq9_2:AT:=mkt 0xc25500e0
def zq9_3:AT:=mkt 0x221b9666bc80ea0ea7b21e7fc1f6c84780638
def Yr:AF:=⟨14,[.tmp 4],
 (zg zq9_0 []
 (.seq (zg zq9_1 [5]
 (zw 6
 (zg zq9_2 []
 .ret)
 .skip))
 (zg zq9_3 [7,8,9,10,11,12,13]
 .ret)))⟩
abbrev Qa5:Nat:=12
def zqa_0:AT:=mkt 0xc0d153a5501a0
def zqa_1:AT:=mkt 0xcaae66334f7291046980338
def zqa_2:AT:=mkt 0xc0d153a5501a0
def zqa_3:AT:=mke 0x69e058b735219679ad22c004d8 (.rd (some 17) none (.look false false [.i] (.agg [(.int .i64 0),(.int .i64 0),(.int .i64 0),(.int .i64 0),(.int .i64 0),(.int .i64 0),(.int .i64 0),(.int .i64 0),(.int .i64 0),(.int .i64 0),(.int .i64 0),(.int .i64 0),(.int .i64 0),(.int .i64 0),(.int .i64 0),(.int .i64 0),(.int .i64 0),(.int .i64 0),(.int .i64 0),(.int .i64 0),(.int .i64 0),(.int .i64 0),(.int .i64 0),(.int .i64 0),(.int .i64 0),(.int .i64 0),(.int .i64 0),(.int .i64 0),(.int .i64 0),(.int .i64 0),(.int .i64 0),(.int .i64 0),(.int .i64 0),(.int .i64 0),(.int .i64 0),(.int .i64 0),(.int .i64 0),(.int .i64 0),(.int .i64 0),(.int .i64 0),(.int .i64 0),(.int .i64 0),(.int .i64 0),(.int .i64 0),(.int .i64 0),(.int .i64 0),(.int .i64 0),(.int .i64 0),(.int .i64 0),(.int .i64 0),(.int .i64 0),(.int .i64 0),(.int .i64 0),(.int .i64 0),(.int .i64 0),(.int .i64 0),(.int .i64 0),(.int .i64 0),(.int .i64 0),(.int .i64 0),(.int .i64 0),(.int .i64 0),(.int .i64 0),(.int .i64 0)]) (.t 15) (.t 16))
 (.cl true (some 18) none (.c (.fn (.func 33) [] [])) [(.c (.int .i64 0))]
 (.cl false (some 19) none (.c (.fn (.func 32) [] [])) [(.t 11),(.t 17),(.t 18)]
 (.rd (some 6) none (.mov (.t 19))
 .done))))
def zqa_4:AT:=mkt 0x3781eec4ec8a1c03a0
def zqa_5:AT:=mkt 0xc0d153a5501a0
def zqa_6:AT:=mkt 0x33e3f6a9138cbe80481
def Xr:AF:=⟨25,[.tmp 4,.tmp 5],
 (zg zqa_0 []
 (.seq (zg zqa_1 [7,8,9]
 (zw 10
 (zg zqa_2 []
 .ret)
 .skip))
 (zg zqa_3 [11,12,13,14,15,16,17,18,19]
 (.seq (zg zqa_4 [20,21,22]
 (zw 23
 (zg zqa_5 []
 .ret)
 .skip))
 (zg zqa_6 [24]
 .ret)))))⟩
abbrev Xy:Nat:=13
def zqb_0:AT:=mkt 0xc0d153a5501b0
def zqb_1:AT:=mkt 0xc37a09641614494bf772311e3b16d550d1e0fbfc24c7210469807c8
def zqb_2:AT:=mkt 0xc0d153a5501b0
def zqb_3:AT:=mke 0x1cc77d9b13d6ab14633a3400819 (.rd (some 25) none (.look false false [.i] (.agg [(.int .i64 0),(.int .i64 0),(.int .i64 0),(.int .i64 0),(.int .i64 0),(.int .i64 0),(.int .i64 0),(.int .i64 0),(.int .i64 0),(.int .i64 0),(.int .i64 0),(.int .i64 0),(.int .i64 0),(.int .i64 0),(.int .i64 0),(.int .i64 0),(.int .i64 0),(.int .i64 0),(.int .i64 0),(.int .i64 0),(.int .i64 0),(.int .i64 0),(.int .i64 0),(.int .i64 0),(.int .i64 0),(.int .i64 0),(.int .i64 0),(.int .i64 0),(.int .i64 0),(.int .i64 0),(.int .i64 0),(.int .i64 0),(.int .i64 0),(.int .i64 0),(.int .i64 0),(.int .i64 0),(.int .i64 0),(.int .i64 0),(.int .i64 0),(.int .i64 0),(.int .i64 0),(.int .i64 0),(.int .i64 0),(.int .i64 0),(.int .i64 0),(.int .i64 0),(.int .i64 0),(.int .i64 0),(.int .i64 0),(.int .i64 0),(.int .i64 0),(.int .i64 0),(.int .i64 0),(.int .i64 0),(.int .i64 0),(.int .i64 0),(.int .i64 0),(.int .i64 0),(.int .i64 0),(.int .i64 0),(.int .i64 0),(.int .i64 0),(.int .i64 0),(.int .i64 0)]) (.t 23) (.t 24))
 (.rd (some 26) none (.mov (.t 0))
 (.rd (some 27) none (.nilc (.t 26))
 (.rd (some 28) none (.faddr 4 (.t 27))
 (.rd (some 29) none (.load false 1 (.t 28))
 (.rd (some 30) none (.mov (.t 2))
 (.rd (some 31) none (.look false false [.i] (.agg [(.int .i64 0),(.int .i64 0),(.int .i64 0),(.int .i64 0),(.int .i64 0),(.int .i64 0),(.int .i64 0),(.int .i64 0),(.int .i64 0),(.int .i64 0),(.int .i64 0),(.int .i64 0),(.int .i64 0),(.int .i64 0),(.int .i64 0),(.int .i64 0),(.int .i64 0),(.int .i64 0),(.int .i64 0),(.int .i64 0),(.int .i64 0),(.int .i64 0),(.int .i64 0),(.int .i64 0),(.int .i64 0),(.int .i64 0),(.int .i64 0),(.int .i64 0),(.int .i64 0),(.int .i64 0),(.int .i64 0),(.int .i64 0),(.int .i64 0),(.int .i64 0),(.int .i64 0),(.int .i64 0),(.int .i64 0),(.int .i64 0),(.int .i64 0),(.int .i64 0),(.int .i64 0),(.int .i64 0),(.int .i64 0),(.int .i64 0),(.int .i64 0),(.int .i64 0),(.int .i64 0),(.int .i64 0),(.int .i64 0),(.int .i64 0),(.int .i64 0),(.int .i64 0),(.int .i64 0),(.int .i64 0),(.int .i64 0),(.int .i64 0),(.int .i64 0),(.int .i64 0),(.int .i64 0),(.int .i64 0),(.int .i64 0),(.int .i64 0),(.int .i64 0),(.int .i64 0)]) (.t 29) (.t 30))
 (.cl false (some 32) none (.c (.fn (.func 32) [] [])) [(.t 19),(.t 25),(.t 31)]
 (.rd (some 8) none (.mov (.t 32))
 .done)))))))))
def zqb_4:AT:=mkt 0x957182d71a60240609
def zqb_5:AT:=mkt 0xc0d153a5501b0
def zqb_6:AT:=mkt 0x33e414a261c974504e9
def Xh:AF:=⟨38,[.tmp 6,.tmp 7],
 (zg zqb_0 []
 (.seq (zg zqb_1 [9,10,11,12,13,14,15,16,17]
 (zw 18
 (zg zqb_2 []
 .ret)
 .skip))
 (zg zqb_3 [19,20,21,22,23,24,25,26,27,28,29,30,31,32]
 (.seq (zg zqb_4 [33,34,35]
 (zw 36
 (zg zqb_5 []
 .ret)
 .skip))
 (zg zqb_6 [37]
 .ret)))))⟩
abbrev Xn:Nat:=14
def zqc_0:AT:=mkt 0x2d62ed662b198
def zqc_1:AT:=mkt 0x61fcb7d2801e0
def zqc_2:AT:=mkt 0x603900e0
def zqc_3:AT:=mkt 0x22b0c74669c105f1e3c3ea8dc2f907072d48ad98b38ca9c0670
def zqc_4:AT:=mkt 0xad954f9a938868220
def zqc_5:AT:=mkt 0x12b1b440b228
def zqc_6:AT:=mkt 0xaba5a3c445c33dab980ac97a40831
def Qt0:AT:=mkt 0x64ba4221
def QtZ:AT:=mkt 0x119484a97afb01a7626bfc0000e556d327b247d469cba138869
def QtY:AT:=mkt 0x1f7d20f4bc381
def Qoz:AT:=mkt 0x87cf3ad3dd3dcb4399
def Qoy:AT:=mkt 0x1b66d749950692e9f65848de9091970286845f7453bcbc86e863c132a
def Qox:AT:=mkt 0x772df8c055a
def Qow:AT:=mke 0xc7ae6537e8b42aff06f4003e0bdb118627d6d5646e863c1572 (mkt 0xe5291c110fea0de7bd906f9a947cbec0b737af0bc2)
def Qov:AT:=mkt 0x3a3f2d5bd5fc144a3c0952ae02c67c224df3a379244a9b640d2dd3ecd604ff94192f81b64d9839aa128db
def Qou:AT:=mkt 0x59cf82793e62d07470843
def Qot:AT:=mke 0x55eda382e17bb9818d3757da8386187c59edc8a0d573eaedfbc9aa1204b (mkt 0x213849b901a664897ea5af5e28e972475b898e01dcdf82aea8b509e9a9b)
def Qos:AT:=mkt 0x7182bb661a898334708db
def Qor:AT:=mkt 0x2fa13ac3dde4c979327dd1f8f19365b6c6ad83cb4ef1c153e40673cf1e96e429ff5bbdae58ce2c36e4
def Qoq:AT:=mkt 0x65703d940a1cc8ac0b44
def QvY:AT:=mkt 0x3f44c689a662c0b4c
def XZ:AF:=⟨106,[.tmp 4],
 (zg zqc_0 []
 (.seq (zg zqc_1 [12]
 (zw 13
 (zg zqc_2 []
 .ret)
 .skip))
 (zg zqc_3 [14,15,16,17,18,19]
 (zg zqc_4 [20]
 (zg zqc_5 [21]
 (.seq (zg zqc_6 [22,23,24]
 (.block 0 (.loop (zg Qt0 []
 (.seq (zw 28
 .skip
 (.exit 0))
 (.seq (.block 1 (zg QtZ [29,30,31]
 (zg QtY [32]
 (.block 2 (zg Qoz [35]
 (zw 34
 (.seq (zg Qoy [37,38,39,40,36,41,42,10]
 (zg Qox [43]
 (zw 44
 (.reg Qow [46,47,48,49,50,51,52,53,54,55,56,45,57,58])
 .skip)))
 (.reg Qov [59,60,61,62,63,64,65,66,67,68,69,70]))
 (zg Qou [72]
 (zw 71
 (.reg Qot [73,74,75,76,77,78,79,80,81,82,83,84,85,86,87,88,89])
 (zg Qos [91]
 (zw 90
 (.reg Qor [92,93,94,95,96,97,98,99,100,101,102,103])
 .skip))))))))))
 (.reg Qoq [104])))))))
 (zg QvY [105]
 .ret)))))))⟩
abbrev Yg:Nat:=15
def zqd_0:AT:=mkt 0x2d87af385df30d0
def zqd_1:AT:=mkt 0x61fcb7d2801b0
def zqd_2:AT:=mkt 0x4c42a177b0f5e66d01c0
def zqd_3:AT:=mkt 0xefe9430b602d7ed90cc111e8f0aa04533c69c03ed84e0b38ca9c0648
def zqd_4:AT:=mkt 0x26c963a16f77ccf4199ca4026a37a886eb1bede63f7eaf1dad301c5e9b2d4f4d9af6aa3e6c2685240f79
def zqd_5:AT:=mkt 0x64ba4219
def zqd_6:AT:=mkt 0xc7bba5c85533334804a1
def zqd_7:AT:=mkt 0x167083ebf448f5e73943a5499b35dd1ee2814f1e38b69de63dc59bd2fd9e4af1
def zqd_8:AT:=mkt 0x5e343eea2c06d643a9
def zqd_9:AT:=mkt 0x7d1d5169e2543b1
def XA:AF:=⟨39,[.cell 2 true 2],
 (zg zqd_0 []
 (.seq (zg zqd_1 [6]
 (zw 7
 (zg zqd_2 [8]
 .ret)
 .skip))
 (zg zqd_3 [9,10,11,12,13,14]
 (.seq (zg zqd_4 [15,16,17,18,19,20,21,22,23]
 (.block 0 (.loop (zg zqd_5 []
 (.seq (zw 27
 .skip
 (.exit 0))
 (.seq (.block 1 (zg zqd_6 [28,29]
 (.reg zqd_7 [30,31,32,33,34,35,36])))
 (.reg zqd_8 [37])))))))
 (zg zqd_9 [38]
 .ret)))))⟩
abbrev XM:Nat:=16
def zqe_0:AT:=mkt 0xa7e7dd18fe193b250
def zqe_1:AT:=mkt 0x289be6e1ebe5e8f40533aded2d8698e88a96c1f28a08c639e819fbcc7a8
def zqe_2:AT:=mkt 0x2f2b00e0
def zqe_3:AT:=mkt 0x27c258fd33d4623f74d7eeb398c87cb0bc438
def Qao:AF:=⟨19,[.tmp 4],
 (zg zqe_0 []
 (.seq (zg zqe_1 [5,6,7,8,9,10,11,12,13]
 (zw 14
 (zg zqe_2 []
 .ret)
 .skip))
 (zg zqe_3 [15,16,17,18]
 .ret)))⟩
abbrev Qbp:Nat:=17
def zqf_0:AT:=mkt 0x51715966a8d1abbd7b250
def zqf_1:AT:=mkt 0x180039c6d373a979b097f6da60b6afdbfd1950aa1f1b8744a18a283a4f83e84960
def zqf_2:AT:=mkt 0x6f0353e3c43188341
def zqf_3:AT:=mkt 0x1df207c9782e92c98349
def zqf_4:AT:=mkt 0x377bdcc56add51036d5e16618c512fd48bd95540232dc991
def zqf_5:AT:=mkt 0x547f3a4ea1cf77540232dc741
def QCp:AT:=mkt 0xb5c27d3a9
def QCo:AT:=mkt 0x2e2d29113ca5778873a
def QCn:AT:=mkt 0x8030f11005b958a98f0d7361ea317656f62742d580b4a
def zqf_9:AT:=mkt 0x278691dda3528056a
def QvX:AT:=mkt 0x194c9fb5caa7d8077a
def Qop:AT:=mkt 0xa12a0392
def Qoo:AT:=mkt 0x5a0b3f04d266f1f40079a
def Qon:AT:=mkt 0x41e98ddae3b12e32e3c61650d043cd5e1633cdcdf1a4001c429a0018aed39921e57965a547f62ffccf451619b2
def Qom:AT:=mkt 0x4f2b7284605f2
def Qol:AT:=mkt 0xd3cc5299c22ee6b080b
def Qok:AT:=mkt 0x5ac9ed5a9c21accdc1fe68e9e95281691413
def Qoj:AT:=mkt 0xb74a922caa21318ac709c956312127619e4bedb9e5ff7be81691443
def Qoi:AT:=mkt 0x20b1db63077d8fd6daead04176370227116d5e8e320a281691d6b
def Qoh:AT:=mkt 0x6b46183895e39eca308b3
def Qog:AT:=mke 0x158444e4ea298d987c6fb254b7732d86bfac4c2e337fad1599b1942abc (mkt 0x25eabfdd1885b5ef71c367dc3e38a81e66f1ff4e37f6c298f45d9d84699f593183a3c246b174f2e1f1c68d70dd2382314)
def Qof:AT:=mkt 0x65712c67f40555bc0b44
def QvW:AT:=mkt 0x874c0e5b19440b4c
def Yz:AF:=⟨106,[.cell 4 true 2],
 (zg zqf_0 []
 (.seq (zg zqf_1 [12,13,14,15,16,17,18,19,20,21,22]
 (zw 23
 (zg zqf_2 [24]
 .ret)
 .skip))
 (zg zqf_3 [25]
 (zg zqf_4 [26,27,28,29,30,31]
 (.seq (zg zqf_5 [32,33,34,35]
 (.block 0 (.loop (zg QCp [37]
 (.seq (zw 38
 .skip
 (.exit 0))
 (.block 1 (zg QCo [39,40]
 (.reg QCn [41,42,43,44]))))))))
 (zg zqf_9 [45,46]
 (.seq (zg QvX []
 (.block 2 (.loop (zg Qop []
 (.seq (zw 50
 .skip
 (.exit 2))
 (.seq (.block 3 (zg Qoo [51,52]
 (zg Qon [54,55,56,57,58,59,53,60,61,11]
 (zg Qom [62]
 (.block 4 (zg Qol [65]
 (zw 64
 (.seq (.block 5 (.loop (.seq (zg Qok [66,67,68,69,70]
 (zw 71
 .skip
 (.exit 5)))
 (.block 6 (.reg Qoj [72,73,74,75,76])))))
 (.reg Qoi [77,78,79,80,81,82,83,84]))
 (zg Qoh [86]
 (zw 85
 (.reg Qog [87,88,89,90,91,92,93,94,95,96,97,98,99,100,101,102,103])
 .skip)))))))))
 (.reg Qof [104])))))))
 (zg QvW [105]
 .ret))))))))⟩
abbrev XU:Nat:=18
def zqg_0:AT:=mkt 0xddafaabf646a7be2b260
def zqg_1:AT:=mkt 0x396951166523b12cbd25b79297bd4a94a737fe1662828cbd8a6214b021e19993adc07d8
def zqg_2:AT:=mkt 0x119b6e18210
def zqg_3:AT:=mkt 0xc0d153a5501b0
def zqg_4:AT:=mkt 0x16d7fff4c2019e613732b0b010c0460
def QfH:AF:=⟨23,[.tmp 6,.tmp 7],
 (zg zqg_0 []
 (zg zqg_1 [11,12,13,14,15,10,16,17]
 (.seq (zg zqg_2 [18]
 (zw 19
 (zg zqg_3 []
 .ret)
 .skip))
 (zg zqg_4 [20,21,22]
 .ret))))⟩
abbrev QbF:Nat:=19
def zqh_0:AT:=mkt 0xc25500e0
def zqh_1:AT:=mkt 0x2634c00e8
def zqh_2:AT:=mkt 0xc25500f0
def zqh_3:AT:=mkt 0x12e32d5219c868dc093a6d169d2385b2349d7c890dce290638
def zqh_4:AT:=mkt 0x50a186bfda4beb4e8b364eca8ee3500508
def zqh_5:AT:=mkt 0x21e59589131c87d56aebb7c914cc86f9
def zqh_6:AT:=mkt 0x1c464e0b5e666c5502b8
def zqh_7:AT:=mkt 0x2ada995d90a5c8499
def Xw:AF:=⟨29,[.tmp 4],
 (zg zqh_0 []
 (zg zqh_1 []
 (.seq (zg zqh_2 []
 (.block 0 (.loop (.seq (zg zqh_3 [7,8,9,10,11,12,13]
 (zw 14
 .skip
 (.exit 0)))
 (.seq (.block 1 (zg zqh_4 [17,18,19,20,21]
 (zw 22
 (.reg zqh_5 [23,24,25,26])
 .skip)))
 (.reg zqh_6 [15,16]))))))
 (zg zqh_7 [27,28]
 .ret))))⟩
abbrev ZW:Nat:=20
def zqi_0:AT:=mkt 0x2f2b00e0
def zqi_1:AT:=mke 0x2586fc43d26675ea2e485ea733bc965c8c650cfb183cc07a8 (mkt 0x1f0638a3cd0028ba5ea95a49db07dea6eb6213aabdd8181122c8d6d0ba0678)
def XF:AF:=⟨22,[.tmp 4],
 (zg zqi_0 []
 (zg zqi_1 [5,6,7,8,9,10,11,12,13,14,15,16,17,18,19,20,21]
 .ret))⟩
abbrev Z7:Nat:=21
abbrev Qi4:Nat:=22
abbrev Qkj:Nat:=23
abbrev QmT:Nat:=24
abbrev Qi5:Nat:=25
def zqn_0:AT:=mkt 0xa9ce00c0
def zqn_1:AT:=mkt 0x2603d4c8b4a93dcfb370f79bf32e2839b308
def QfJ:AF:=⟨4,[.tmp 0],
 (zg zqn_0 []
 (zg zqn_1 [1,2,3]
 .ret))⟩
abbrev QjB:Nat:=26
def QCm:AT:=mkt 0x5ba9a3ee9b198
def QCl:AT:=mkt 0x7c31f5db17170a72dc5fa00d2e3e82b54888676dd280660
def QCk:AT:=mkt 0x127be400e0
def QCj:AT:=mkt 0x4da37b248965894a83b462b3cf4ec66d8a27ab7502e5717ec9801ac97a40e69
def QCi:AT:=mkt 0x96f0229
def QCh:AT:=mkt 0x6157c6f558371
def QCg:AT:=mkt 0x2cf8ea2c4f83d623cc69efa0e40879
def QCf:AT:=mkt 0xaf4dc023f413101cd48f00ec569faee51e95394761
def QCe:AT:=mkt 0xd3e0ef2d8647343953f50ec2093a
def QCd:AT:=mkt 0xa12a035a
def QqN:AT:=mkt 0x4decad965d4d4b5400762
def QqM:AT:=mke 0x28673be5c21ae055ffb7564a17a4a0e99f2f41536201572 (mkt 0x12c81fdf7cdffae9a260bdd7b642c826e7a509a1d6c7402015c2)
def QqL:AT:=mkt 0x13f4d7cbe0ec962f0803
def QqK:AT:=mkt 0x2297bca0235011372f6f6036ac34e31eb62b9fd3914c5bd2598d5550a7866d6fb676947523e7c3a6803b936199f79b26ff32d07de74be4503d85d08c320e2cc2b44a8c7707bd2752ae69cf954cca2758204cbabda7b4cd0dc14a3a35e5f7a3a64374ed7d74d57140a3d702dddd72c6830ee67e235d163a8fcd79de88a815766059a02f8cf3b212e0665ea6bb2f59153c841c84c93dc4ff754611a82980a5fe9814683cc8c8e8300260b
def QqJ:AT:=mkt 0x1c83fb1d8026688d50180dd7ded91ca7a5f4835f0bbc2f5bbb99fe4e29db995a32d4942c81bf7c02412c5ccf868926948ce66c71fd9cd68bae69e83201fde0a63f3ba6c3b99189ddcc6c1f7168b9a57a6cdf80c44e08adf80480baccb9bdfcc52525929eae6a75b1e15325ce8e29efb096ad59214fad971a9c43fd7be9459f7e0e6c26eb6516a8210749d2a24fa28ba425f0d730b89dcfcc226c40003e9c
def QqI:AT:=mkt 0x2a2dd9b18480b4c
def YM:AF:=⟨106,[.tmp 4],
 (zg QCm []
 (.seq (zg QCl [12,13,14,15,16,17,18]
 (zw 19
 (zg QCk []
 .ret)
 .skip))
 (.seq (zg QCj [21,22,23,24,25,26,20,27,28]
 (zg QCi []
 (zw 29
 (zg QCh [30]
 .ret)
 .skip)))
 (zg QCg [31,32,33,34,35]
 (zg QCf [36,37,38]
 (.seq (zg QCe [39]
 (.block 0 (.loop (zg QCd []
 (.seq (zw 43
 .skip
 (.exit 0))
 (.seq (.block 1 (zg QqN [44,45]
 (.reg QqM [46,47,48,49,50,51,52,53,54,55,56,57,58,59,60,61,62,63])))
 (.reg QqL [64])))))))
 (zg QqK [65,66,67,68,69,70,71,72,73,74,75,76,77,78,79,80,81,82]
 (zg QqJ [83,84,85,86,87,88,89,90,91,92,93,94,95,96,97,98,99,100,101,102,103,104]
 (zg QqI [105]
 .ret)))))))))⟩
abbrev Qat:Nat:=27
def zqp_0:AT:=mkt 0x5eea8bc27bab7b224f0adfdfa29874b51c04a0
def zqp_1:AT:=mkt 0x25003547ad121d1a1c0350
def zqp_2:AT:=mkt 0x7b518ac8735a48c8c3d60a796a72f622659f67d24133ba44c530787c22cb5ec008a8
def Yy:AF:=⟨23,[],
 (.seq (zg zqp_0 [4,5,6,7,8]
 (zw 9
 (zg zqp_1 [10,11,12]
 .ret)
 .skip))
 (.reg zqp_2 [13,14,15,16,17,18,19,20,21,22]))⟩
abbrev ZJ:Nat:=28
def zqq_0:AT:=mkt 0x2f2b00e0
def zqq_1:AT:=mke 0x1901c0897bcea951d823684ab259e154d27ddf33a03ea46007a8 (mkt 0x73ed62f12e3a0d322afd5479c4302fa4e4f8)
def ZR:AF:=⟨20,[.tmp 4],
 (zg zqq_0 []
 (zg zqq_1 [5,6,7,8,9,10,11,12,13,14,15,16,17,18,19]
 .ret))⟩
abbrev Qdl:Nat:=29
def zqr_0:AT:=mkt 0x2f2b00e0
def zqr_1:AT:=mkt 0x333dbafc8be99ab91d3dfab472dde68b45d280680
def zqr_2:AT:=mkt 0x2f2b00e0
def zqr_3:AT:=mkt 0xbcd815886a303df729ad7b55300bf388c0f8ccba2d5ab9efa0e40ac1
def zqr_4:AT:=mkt 0x3d4a3efde67f550a9feaf11dc85f9
def zqr_5:AT:=mkt 0x2f2b00e0
def zqr_6:AT:=mkt 0x663aaa2c3e1b484d9
def QtX:AT:=mkt 0x64ba4271
def QtW:AT:=mkt 0x4543bd9b457c1d740073a
def QtV:AT:=mke 0x265a0e8105ec574346200b52 (.rd (some 47) none (.look true false [.i] (.agg [(.int .i64 0),(.int .i64 0),(.int .i64 0),(.int .i64 0),(.int .i64 0),(.int .i64 0),(.int .i64 0),(.int .i64 0),(.int .i64 0),(.int .i64 0),(.int .i64 0),(.int .i64 0),(.int .i64 0),(.int .i64 0),(.int .i64 0),(.int .i64 0),(.int .i64 0),(.int .i64 0),(.int .i64 0),(.int .i64 0),(.int .i64 0),(.int .i64 0),(.int .i64 0),(.int .i64 0),(.int .i64 0),(.int .i64 0),(.int .i64 0),(.int .i64 0),(.int .i64 0),(.int .i64 0),(.int .i64 0),(.int .i64 0),(.int .i64 0),(.int .i64 0),(.int .i64 0),(.int .i64 0),(.int .i64 0),(.int .i64 0),(.int .i64 0),(.int .i64 0),(.int .i64 0),(.int .i64 0),(.int .i64 0),(.int .i64 0),(.int .i64 0),(.int .i64 0),(.int .i64 0),(.int .i64 0),(.int .i64 0),(.int .i64 0),(.int .i64 0),(.int .i64 0),(.int .i64 0),(.int .i64 0),(.int .i64 0),(.int .i64 0),(.int .i64 0),(.int .i64 0),(.int .i64 0),(.int .i64 0),(.int .i64 0),(.int .i64 0),(.int .i64 0),(.int .i64 0)]) (.t 45) (.t 46))
 (.rd (some 41) none (.mov (.t 47))
 (.rd (some 48) none (.extr (.t 41) 0)
 (.rd (some 49) none (.extr (.t 41) 1)
 (.wr false (some 8) none (.new 85 (List.replicate 64 [(.int .i64 0)]).flatten)
 (.wr false none none (.store 64 (.t 8) (.t 48))
 (.rd (some 9) none (.mov (.t 49))
 .done)))))))
def Qoe:AT:=mkt 0x16a40392
def Qod:AT:=mkt 0x2a803ce826ab7cabac484ad50f2eb337490751209985ab9bcf86b0de108ec15b3dfb4238647e15532e2019a2
def Qoc:AT:=(.wr false (some 12) none (.new 85 (List.replicate 64 [(.int .i64 0)]).flatten)
 .done)
def Qob:AT:=mkt 0x4f2b7284605e2
def Qoa:AT:=mkt 0x52538b72a630a13bf0813
def Qn9:AT:=mkt 0x25958704f30dc3da55449f6b9b802f0e1b
def Qn8:AT:=mkt 0x58902eaabe3bb97bf083b
def Qn7:AT:=mkt 0x2f2b0128
def Qn6:AT:=mke 0x2ec4e8a00464086500fed7effe5ab69cd109b9ab01d4b (.rd (some 82) none (.look false false [.i] (.agg [(.int .i64 0),(.int .i64 0),(.int .i64 0),(.int .i64 0),(.int .i64 0),(.int .i64 0),(.int .i64 0),(.int .i64 0),(.int .i64 0),(.int .i64 0),(.int .i64 0),(.int .i64 0),(.int .i64 0),(.int .i64 0),(.int .i64 0),(.int .i64 0),(.int .i64 0),(.int .i64 0),(.int .i64 0),(.int .i64 0),(.int .i64 0),(.int .i64 0),(.int .i64 0),(.int .i64 0),(.int .i64 0),(.int .i64 0),(.int .i64 0),(.int .i64 0),(.int .i64 0),(.int .i64 0),(.int .i64 0),(.int .i64 0),(.int .i64 0),(.int .i64 0),(.int .i64 0),(.int .i64 0),(.int .i64 0),(.int .i64 0),(.int .i64 0),(.int .i64 0),(.int .i64 0),(.int .i64 0),(.int .i64 0),(.int .i64 0),(.int .i64 0),(.int .i64 0),(.int .i64 0),(.int .i64 0),(.int .i64 0),(.int .i64 0),(.int .i64 0),(.int .i64 0),(.int .i64 0),(.int .i64 0),(.int .i64 0),(.int .i64 0),(.int .i64 0),(.int .i64 0),(.int .i64 0),(.int .i64 0),(.int .i64 0),(.int .i64 0),(.int .i64 0),(.int .i64 0)]) (.t 79) (.t 81))
 (.rd (some 83) none (.mov (.t 0))
 (.rd (some 84) none (.nilc (.t 83))
 (.rd (some 85) none (.faddr 4 (.t 84))
 (.rd (some 86) none (.load false 1 (.t 85))
 (.rd (some 87) none (.faddr 5 (.t 10))
 (.rd (some 88) none (.load false 1 (.t 87))
 (.rd (some 89) none (.look false false [.i] (.agg [(.int .i64 0),(.int .i64 0),(.int .i64 0),(.int .i64 0),(.int .i64 0),(.int .i64 0),(.int .i64 0),(.int .i64 0),(.int .i64 0),(.int .i64 0),(.int .i64 0),(.int .i64 0),(.int .i64 0),(.int .i64 0),(.int .i64 0),(.int .i64 0),(.int .i64 0),(.int .i64 0),(.int .i64 0),(.int .i64 0),(.int .i64 0),(.int .i64 0),(.int .i64 0),(.int .i64 0),(.int .i64 0),(.int .i64 0),(.int .i64 0),(.int .i64 0),(.int .i64 0),(.int .i64 0),(.int .i64 0),(.int .i64 0),(.int .i64 0),(.int .i64 0),(.int .i64 0),(.int .i64 0),(.int .i64 0),(.int .i64 0),(.int .i64 0),(.int .i64 0),(.int .i64 0),(.int .i64 0),(.int .i64 0),(.int .i64 0),(.int .i64 0),(.int .i64 0),(.int .i64 0),(.int .i64 0),(.int .i64 0),(.int .i64 0),(.int .i64 0),(.int .i64 0),(.int .i64 0),(.int .i64 0),(.int .i64 0),(.int .i64 0),(.int .i64 0),(.int .i64 0),(.int .i64 0),(.int .i64 0),(.int .i64 0),(.int .i64 0),(.int .i64 0),(.int .i64 0)]) (.t 86) (.t 88))
 (.cl false (some 90) none (.c (.fn (.func 56) [] [])) [(.t 73),(.t 75),(.t 82),(.t 89)]
 (.rd (some 72) none (.mov (.t 90))
 (.rd (some 91) none (.extr (.t 72) 0)
 (.rd (some 92) none (.extr (.t 72) 1)
 (.wr false none none (.store 64 (.t 12) (.t 91))
 (.rd (some 13) none (.mov (.t 92))
 .done))))))))))))))
def Qn5:AT:=mkt 0x109713de08eb
def Qn4:AT:=mkt 0x1ad02ecb18ed842b921552dc77058012fc
def Qn3:AT:=mkt 0x4e55336850c22dfe234f084eb2a200df3
def Qn2:AT:=mkt 0x6b938a02f95bda25d0802a683904ffa674714401f14
def Qn1:AT:=mkt 0x21e603465d4fe1b0508c0f44
def Qn0:AT:=mkt 0xe7e1f4fe9429d72ed985e24c84875fd86913c780175c
def QnZ:AT:=mkt 0x6d3e22239acc4e9c0b84
def QvV:AT:=mke 0x159555272eab274714401794 (.rd (some 119) none (.look true false [.i] (.agg [(.int .i64 0),(.int .i64 0),(.int .i64 0),(.int .i64 0),(.int .i64 0),(.int .i64 0),(.int .i64 0),(.int .i64 0),(.int .i64 0),(.int .i64 0),(.int .i64 0),(.int .i64 0),(.int .i64 0),(.int .i64 0),(.int .i64 0),(.int .i64 0),(.int .i64 0),(.int .i64 0),(.int .i64 0),(.int .i64 0),(.int .i64 0),(.int .i64 0),(.int .i64 0),(.int .i64 0),(.int .i64 0),(.int .i64 0),(.int .i64 0),(.int .i64 0),(.int .i64 0),(.int .i64 0),(.int .i64 0),(.int .i64 0),(.int .i64 0),(.int .i64 0),(.int .i64 0),(.int .i64 0),(.int .i64 0),(.int .i64 0),(.int .i64 0),(.int .i64 0),(.int .i64 0),(.int .i64 0),(.int .i64 0),(.int .i64 0),(.int .i64 0),(.int .i64 0),(.int .i64 0),(.int .i64 0),(.int .i64 0),(.int .i64 0),(.int .i64 0),(.int .i64 0),(.int .i64 0),(.int .i64 0),(.int .i64 0),(.int .i64 0),(.int .i64 0),(.int .i64 0),(.int .i64 0),(.int .i64 0),(.int .i64 0),(.int .i64 0),(.int .i64 0),(.int .i64 0)]) (.t 117) (.t 118))
 (.rd (some 113) none (.mov (.t 119))
 (.rd (some 120) none (.extr (.t 113) 0)
 (.rd (some 121) none (.extr (.t 113) 1)
 (.wr false (some 14) none (.new 85 (List.replicate 64 [(.int .i64 0)]).flatten)
 (.wr false none none (.store 64 (.t 14) (.t 120))
 (.rd (some 15) none (.mov (.t 121))
 .done)))))))
def QvU:AT:=mkt 0xe4ea74a1f38823efb31596bb36150b4cacfc7ecdfd33b439d5
def XX:AF:=⟨130,[.tmp 4],
 (zg zqr_0 []
 (.seq (zg zqr_1 [16,17,18,19,20,21,22]
 (zw 23
 (zg zqr_2 []
 .ret)
 .skip))
 (zg zqr_3 [24,25,26,27,28,29,30]
 (.seq (zg zqr_4 [31,32,33]
 (zw 34
 (zg zqr_5 []
 .ret)
 .skip))
 (.seq (zg zqr_6 []
 (.block 0 (.loop (zg QtX []
 (.seq (zw 38
 .skip
 (.exit 0))
 (.seq (.block 1 (zg QtW [39,40]
 (.seq (zg QtV [42,43,44,45,46,47,41,48,49,8]
 (zg Qoe []
 (zw 50
 (.exit 1)
 .skip)))
 (zg Qod [52,53,54,55,56,57,51,58,59,11]
 (zg Qoc []
 (.seq (zg Qob [60]
 (.block 2 (zg Qoa [66]
 (zw 65
 (.reg Qn9 [67,68,69])
 (zg Qn8 [71]
 (zw 70
 (zg Qn7 []
 (zg Qn6 [73,74,75,76,77,78,79,80,81,82,83,84,85,86,87,88,89,90,72,91,92]
 (zg Qn5 [93]
 (zw 94
 (.reg Qn4 [95,96,97])
 .skip))))
 (.reg Qn3 [62,63,64])))))))
 (zg Qn2 [98,99,100,101,102,103]
 (zg Qn1 [104,105]
 (zw 106
 (.reg Qn0 [107,108,109,110,111])
 .skip)))))))))
 (.reg QnZ [112])))))))
 (zg QvV [114,115,116,117,118,119,113,120,121,14]
 (zg QvU [122,123,124,125,126,127,128,129]
 .ret)))))))⟩
abbrev Qal:Nat:=30
def QCc:AT:=mkt 0x603900d0
def QCb:AT:=mke 0xd8 (.rd (some 4) none (.eqn false (.t 3))
 .done)
def QCa:AT:=mkt 0x603900d0
def QB9:AT:=mkt 0x1205a677524e2f81b0e0034f2aaba23b328
def QR:AF:=⟨8,[.tmp 2],
 (zg QCc []
 (.seq (zg QCb [3]
 (zw 4
 (zg QCa []
 .ret)
 .skip))
 (zg QB9 [5,6,7]
 .ret)))⟩
abbrev X2:Nat:=31
def zqt_0:AT:=mkt 0x722b1779dba22abf02688988b260
def zqt_1:AT:=mkt 0x127be400f8
def zqt_2:AT:=mkt 0xc2550108
def zqt_3:AT:=mkt 0x76fd4a76904110
def zqt_4:AT:=mkt 0x7f5808e481d8
def zqt_5:AT:=mkt 0x6ae33982a6b7de16836b1cc4b3bfd70ab31f7855c43c7f4836df226e645f56763cbdd58ec3e1212880960
def zqt_6:AT:=mkt 0x8141dbf9478ef4238
def zqt_7:AT:=mkt 0x4de1170f28341
def XI:AF:=⟨25,[.tmp 6],
 (zg zqt_0 []
 (zg zqt_1 []
 (.seq (zg zqt_2 []
 (.block 0 (.loop (zg zqt_3 []
 (.seq (zw 10
 .skip
 (.exit 0))
 (.seq (.block 1 (zg zqt_4 [11]
 (.reg zqt_5 [12,13,14,15,16,17,18,19,20,21,22])))
 (.reg zqt_6 [23])))))))
 (zg zqt_7 [24]
 .ret))))⟩
abbrev X3:Nat:=32
def zqu_0:AT:=(.wr false (some 2) none (.new 85 (List.replicate 64 [(.int .i64 0)]).flatten)
 .done)
def zqu_1:AT:=mkt 0xc25500e0
def zqu_2:AT:=mkt 0x76fd4a769040e8
def zqu_3:AT:=mkt 0x4572381901b0
def zqu_4:AT:=mkt 0x186fb4344c7bb02d4345875c8278
def zqu_5:AT:=mkt 0x1c089f84498e2c40a673d194680408
def zqu_6:AT:=mkt 0x20515c6e4bdc02d4345875c82b0
def zqu_7:AT:=mkt 0x59e81a6d7a460c200
def zqu_8:AT:=mkt 0x2e482ca5901ed9ea22ac208
def Qap:AF:=⟨18,[.cell 2 true 64],
 (zg zqu_0 []
 (.seq (zg zqu_1 []
 (.block 0 (.loop (zg zqu_2 []
 (.seq (zw 5
 .skip
 (.exit 0))
 (.seq (.block 1 (zg zqu_3 [6]
 (zg zqu_4 [7,8]
 (zg zqu_5 [9,10,11,12]
 (zw 13
 (.reg zqu_6 [14,15])
 .skip)))))
 (.reg zqu_7 [16])))))))
 (zg zqu_8 [17]
 .ret)))⟩
abbrev QeM:Nat:=33
def zqv_0:AT:=mkt 0x2f2b00d8
def zqv_1:AT:=mkt 0x3b90856b0401a0
def zqv_2:AT:=mkt 0xfafcf87805185e0a351ef284b529b504a03bda84630
def zqv_3:AT:=mkt 0x18f84c8c540b936f3990ca045005c3da844e8
def Xo:AF:=⟨18,[.tmp 3],
 (zg zqv_0 []
 (.seq (zg zqv_1 [4]
 (zw 5
 (zg zqv_2 [6,7,8,9,10,11,12]
 .ret)
 .skip))
 (zg zqv_3 [13,14,15,16,17]
 .ret)))⟩
abbrev Q8:Nat:=34
def zqw_0:AT:=mkt 0x603900d0
def zqw_1:AT:=mkt 0xc25500d8
def zqw_2:AT:=mkt 0x176b4c6f133a80288
def zqw_3:AT:=mkt 0x3c6fc120
def zqw_4:AT:=mkt 0x157e5545a257e43802a8
def zqw_5:AT:=mkt 0x7aa4b0485240c47123cf6c8438
def zqw_6:AT:=mkt 0x3b90856dd88218
def zqw_7:AT:=(.bad false (some 21) none
 (.bad false none none
 .done))
def zqw_8:AT:=mkt 0x7ba64983441284230
def zqw_9:AT:=mkt 0xe71c38ce34613811b7c17c98479
def QvT:AT:=mkt 0x663aaa2c3d9d80489
def QvS:AT:=mkt 0x64ba4221
def QvR:AT:=mkt 0xcea18412cf2d8f0804a9
def QvQ:AT:=mkt 0xfa2522fcdde13ebca9a7f05f9
def QvP:AT:=mkt 0x5691f9e9106305c391
def QvO:AT:=mkt 0x718fddf300399
def Xv:AF:=⟨36,[.tmp 2],
 (zg zqw_0 []
 (zg zqw_1 []
 (.seq (zg zqw_2 []
 (.block 0 (.loop (zg zqw_3 []
 (.seq (zw 12
 .skip
 (.exit 0))
 (.seq (.block 1 (zg zqw_4 [13,14]
 (zg zqw_5 [15,16,17,18]
 (zg zqw_6 [19]
 (zw 20
 (.reg zqw_7 [21])
 .skip)))))
 (.reg zqw_8 [22])))))))
 (zg zqw_9 [23,24]
 (.seq (zg QvT []
 (.block 2 (.loop (zg QvS []
 (.seq (zw 28
 .skip
 (.exit 2))
 (.seq (.block 3 (zg QvR [29,30]
 (.reg QvQ [31,32,33])))
 (.reg QvP [34])))))))
 (zg QvO [35]
 .ret))))))⟩
abbrev ZV:Nat:=35
def zqx_0:AT:=mkt 0x163f8e893b188
def zqx_1:AT:=mkt 0x2378b1cfe83703937728bfd345719f1c738bbadeeb69eb1ab0f321937115e40845b6a9d6559c0c93d1f738130f7934c314fa4ab8
def zqx_2:AT:=mkt 0x2f2b00d0
def zqx_3:AT:=mkt 0x242a20d3468dff60a1de45a9
def zqx_4:AT:=mkt 0x64ba4209
def zqx_5:AT:=mkt 0xb9f4b3a198067bc80491
def zqx_6:AT:=mkt 0x663aaa2c3e02204a1
def zqx_7:AT:=mkt 0x64ba4239
def zqx_8:AT:=mkt 0xe34894cc9164a24804c1
def zqx_9:AT:=mke 0x6a854e2ecfe126e4781dd181cb40989e5bca9a7693e0baecc9765781512 (mkt 0x3034e065587bdec29ae4aa9dfa54f0b62)
def QvN:AT:=mkt 0x2f2b00d0
def QvM:AT:=mkt 0x314876f44e9913a058a
def QvL:AT:=mkt 0x32495d8357b4f720592
def QvK:AT:=mkt 0x47b200d0
def Qan:AF:=⟨51,[.tmp 2],
 (zg zqx_0 []
 (.seq (zg zqx_1 [7,8,9,10,11,12,13,14,15,16,17,18,19]
 (zw 20
 (zg zqx_2 []
 .ret)
 .skip))
 (.seq (zg zqx_3 [21]
 (.block 0 (.loop (zg zqx_4 []
 (.seq (zw 25
 .skip
 (.exit 0))
 (.seq (.block 1 (zg zqx_5 [26,27]
 (zg zqx_6 []
 (.block 2 (.loop (zg zqx_7 []
 (.seq (zw 31
 .skip
 (.exit 2))
 (.seq (.block 3 (zg zqx_8 [32,33]
 (zg zqx_9 [34,35,36,37,38,39,40,41,42,43,44,45,46,47]
 (zw 48
 (zg QvN []
 .ret)
 .skip))))
 (.reg QvM [49])))))))))
 (.reg QvL [50])))))))
 (zg QvK []
 .ret))))⟩
abbrev QeL:Nat:=36
def zqy_0:AT:=mkt 0x163f8fcedb9c8b198
def zqy_1:AT:=mkt 0xbc8921e4b482f4c834f15664bac9b34c0e7f803e8
def Zz:AF:=⟨9,[.tmp 4],
 (zg zqy_0 []
 (zg zqy_1 [5,6,7,8]
 .ret))⟩
abbrev QcB:Nat:=37
def zqz_0:AT:=mkt 0x2f2b00d8
def zqz_1:AT:=mkt 0x257915e9675e8a594f72d6a5980320
def Zd:AF:=⟨7,[.tmp 3],
 (zg zqz_0 []
 (zg zqz_1 [4,5,6]
 .ret))⟩
abbrev QbH:Nat:=38
def QA4:AT:=mkt 0x2f2b00e0
def QA3:AT:=mkt 0x3a4b881827f8786a4c0e896980328
def Zc:AF:=⟨8,[.tmp 4],
 (zg QA4 []
 (zg QA3 [5,6,7]
 .ret))⟩
abbrev QbG:Nat:=39
def QA2:AT:=mkt 0x2f2b00d8
def QA1:AT:=mkt 0x1652905748ad59647b51b6e5d6557ac28d81545f491b8229b6c92f00920478a5a847a0
def Yi:AF:=⟨13,[.tmp 3],
 (zg QA2 []
 (zg QA1 [4,5,6,7,8,9,10,11,12]
 .ret))⟩
abbrev QaJ:Nat:=40
def QA0:AT:=mkt 0xc25500d0
def QAZ:AT:=mkt 0x267b767833cc06b9de4003d8
def QbN:AF:=⟨7,[.tmp 2],
 (zg QA0 []
 (zg QAZ [3,4,5,6]
 .ret))⟩
abbrev Qhn:Nat:=41
def QAY:AT:=mkt 0xc25500e0
def QAX:AT:=mke 0x5342c5699c01e7a843f8 (.rd (some 12) none (.look false false [.i] (.agg [(.int .i64 0),(.int .i64 0),(.int .i64 0),(.int .i64 0),(.int .i64 0),(.int .i64 0),(.int .i64 0),(.int .i64 0),(.int .i64 0),(.int .i64 0),(.int .i64 0),(.int .i64 0),(.int .i64 0),(.int .i64 0),(.int .i64 0),(.int .i64 0),(.int .i64 0),(.int .i64 0),(.int .i64 0),(.int .i64 0),(.int .i64 0),(.int .i64 0),(.int .i64 0),(.int .i64 0),(.int .i64 0),(.int .i64 0),(.int .i64 0),(.int .i64 0),(.int .i64 0),(.int .i64 0),(.int .i64 0),(.int .i64 0),(.int .i64 0),(.int .i64 0),(.int .i64 0),(.int .i64 0),(.int .i64 0),(.int .i64 0),(.int .i64 0),(.int .i64 0),(.int .i64 0),(.int .i64 0),(.int .i64 0),(.int .i64 0),(.int .i64 0),(.int .i64 0),(.int .i64 0),(.int .i64 0),(.int .i64 0),(.int .i64 0),(.int .i64 0),(.int .i64 0),(.int .i64 0),(.int .i64 0),(.int .i64 0),(.int .i64 0),(.int .i64 0),(.int .i64 0),(.int .i64 0),(.int .i64 0),(.int .i64 0),(.int .i64 0),(.int .i64 0),(.int .i64 0)]) (.t 10) (.t 11))
 (.rd (some 13) none (.mov (.c (.int .i64 0)))
 .done))
def QAW:AT:=mkt 0x76fd4a76904130
def QAV:AT:=mkt 0x8494cfd0090f09df11b13ab9538378
def QAU:AT:=mkt 0x1e56df80cbcdcdec4ac5de8e42d9a4e46bbd2d5170111fd1728c2552dce49
def QAT:AT:=mkt 0xa1a7f927a0cc17280453594af20721
def QAS:AT:=mkt 0x5175efb810586cc381
def QAR:AT:=mkt 0x6b13927830389
def XJ:AF:=⟨34,[.tmp 4],
 (zg QAY []
 (.seq (zg QAX [7,8,9,10,11]
 (.block 0 (.loop (zg QAW []
 (.seq (zw 14
 .skip
 (.exit 0))
 (.seq (.block 1 (zg QAV [15,16]
 (zg QAU [17,18,19,20,21,22,23,24,25,26]
 (zw 27
 (.reg QAT [28,29,30,31])
 .skip))))
 (.reg QAS [32])))))))
 (zg QAR [33]
 .ret)))⟩
abbrev Ql:Nat:=42
def zq14_0:AT:=mkt 0xaeb36a956da80258
def zq14_1:AT:=mkt 0x1ba56bdc846991cb10408cc9d8cd81594cf8c506117004a8
def XS:AF:=⟨11,[],
 (zg zq14_0 [3,4]
 (.reg zq14_1 [5,6,7,8,9,10]))⟩
abbrev QZ:Nat:=43
def QAQ:AT:=mkt 0xddb00b6b0377be2b260
def QAP:AT:=mkt 0x3a3f4b2567a8684629752fb2d8
def QAO:AT:=mkt 0x34e555b90b23010062d8220
def QAN:AT:=mkt 0x1f4d39219269c2381cb01e0ae3006e9
def QoG:AT:=mkt 0x64ba4211
def QoF:AT:=mkt 0xc0de67110aa0d7880499
def QoE:AT:=mkt 0x9c0bfe52043883d5a0a13e253a077659ed0d49e2e09cf42789e9e628f309bac7b9db80c31
def QoD:AT:=mkt 0x73c3851fa3a4005ce96a4482b62f957adc899
def QoC:AT:=mkt 0x283b3338e05afbe0542
def QAM:AT:=mkt 0x5da92bd1f54a9fac40c06e4cdc8094a
def QrG:AT:=mkt 0x194c9fb5ca9dc80762
def Qj6:AT:=mkt 0xa12a037a
def Qj5:AT:=mkt 0x963bc168873de16d44510a5787b80b82
def Qj4:AT:=mkt 0x258e71b8286028edacc58705f4088e878abd085b43cb91611a2
def Qj3:AT:=mkt 0x772f12805ca
def Qj2:AT:=mkt 0xc0d1a7b901b0
def Qj1:AT:=mkt 0x305bea10c446ef622d5712f80bda
def Qj0:AT:=mkt 0x3f5dd141d6f95fa05fa
def QrF:AT:=mkt 0x23eca26b3b495bc800b03
def Qc1:AF:=⟨65,[.tmp 6,.tmp 7],
 (zg QAQ []
 (zg QAP [19]
 (zg QAO [20]
 (.seq (zg QAN [21,22]
 (.block 0 (.loop (zg QoG []
 (.seq (zw 26
 .skip
 (.exit 0))
 (.seq (.block 1 (zg QoF [27,28]
 (zg QoE [30,31,32,29,33,34,13]
 (.reg QoD [35,36,37,38,39]))))
 (.reg QoC [40])))))))
 (zg QAM [41,42,43]
 (.seq (zg QrG []
 (.block 2 (.loop (zg Qj6 []
 (.seq (zw 47
 .skip
 (.exit 2))
 (.seq (.block 3 (zg Qj5 [48,49,50]
 (zg Qj4 [52,53,54,51,55,56]
 (.seq (zg Qj3 [57]
 (zw 58
 (zg Qj2 []
 .ret)
 .skip))
 (.reg Qj1 [59,60,61,62])))))
 (.reg Qj0 [63])))))))
 (zg QrF [64]
 .ret)))))))⟩
abbrev Qb8:Nat:=44
def QAL:AT:=mkt 0x2f2b00e0
def QAK:AT:=mkt 0xc25500e8
def QAJ:AT:=mkt 0x1482961edee2acd378330
def QAI:AT:=mke 0xc9a11e007368e5220030292a2d47a65732c9440f5c8ff9401462 (mke 0x8ef1774705d9e211ea283e4372acd3b7403f96f522394889a1f8f7114b2 (mkt 0x1c2e95a3dcd622d8010b34004cd0b3ef0fb67083014f0a42eeb576a74eb5cdab1f5958122450f87d1d02))
def QAH:AT:=mkt 0x47b200e0
def QAG:AT:=mkt 0x1370b2bb0061cb638290
def QAF:AT:=mkt 0x2f2b00e0
def Xx:AF:=⟨46,[.tmp 4],
 (zg QAL []
 (.seq (zg QAK []
 (.block 0 (.loop (.seq (zg QAJ [6,7,8]
 (zw 9
 .skip
 (.exit 0)))
 (.seq (.block 1 (zg QAI [12,13,14,15,16,17,18,19,20,21,22,23,24,25,26,27,28,29,30,31,32,33,34,35,36,37,38,39,40,41,42,43,44]
 (zw 45
 (zg QAH []
 .ret)
 .skip)))
 (.reg QAG [10,11]))))))
 (zg QAF []
 .ret)))⟩
abbrev ZX:Nat:=45
abbrev QmS:Nat:=46
abbrev QkT:Nat:=47
abbrev Qkh:Nat:=48
abbrev QtQ:Nat:=49
def QAE:AT:=mkt 0x163f946e9b198
def QAD:AT:=mkt 0x2c32471e5103934dce96b5504ed7b1bd8930ccb40f988c328
def QAC:AT:=mkt 0x2f2b00e0
def QAB:AT:=mkt 0xbb207f3a41c8
def QAA:AT:=mkt 0xa614f0c1effaec1e0
def QAz:AT:=mkt 0x47b200e0
def QAy:AT:=mkt 0x13adddf6f40360241f0
def QAx:AT:=mkt 0xaa050a32bebd5b80ac802bc378
def QAw:AT:=mkt 0x1ab537ad3aa19024218
def QAv:AT:=mke 0x134affda155a58b7b69977685679483f4ff9991eb685407e917efd9e4d21 (mkt 0x807139dd7e09d9928659bd9334ee6f8ee8e731)
def QrE:AT:=mkt 0x1647ffb3b57422c3c399
def QrD:AT:=mke 0xb6114d7576366c4ae9b0ac4a842b00542391ff2b89a89181e51563c9fad21522 (mkt 0x81603b80108407eda4212e16c123c78bca1e0396f772e2f678404ee137aaf98cab43c7b0eb1772)
def QrC:AT:=mkt 0x2f2b00e0
def Zy:AF:=⟨56,[.tmp 4],
 (zg QAE []
 (.seq (zg QAD [5,6,7]
 (zw 8
 (zg QAC []
 .ret)
 .skip))
 (.seq (zg QAB [9]
 (.block 0 (zg QAA [12]
 (zw 11
 (zg QAz []
 .ret)
 (zg QAy [14]
 (zw 13
 (zg QAx [15,16,17]
 .ret)
 (zg QAw [19]
 (zw 18
 (zg QAv [20,21,22,23,24,25,26,27,28,29,30,31,32,33]
 .ret)
 (zg QrE [35]
 (zw 34
 (zg QrD [36,37,38,39,40,41,42,43,44,45,46,47,48,49,50,51,52,53,54,55]
 .ret)
 .skip))))))))))
 (zg QrC []
 .ret))))⟩
abbrev QcA:Nat:=50
def QAu:AT:=mkt 0xa708b9faa29b198
def QAt:AT:=mkt 0x1cd4a01bd7c831ca9e9b8a40de802bc340
def QAs:AT:=mkt 0xbb207f3a41d8
def QAr:AT:=mkt 0xc1c39cbb7ffaec1f0
def QAq:AT:=mkt 0xad995e7981f8
def QAp:AT:=mkt 0x17e57a29f8f963b4208
def QAo:AT:=mke 0x69a8150 (.rd (some 19) none (.bin .add (.c (.str [115])) (.t 18))
 (.rd (some 6) none (.mov (.t 19))
 .done))
def QAn:AT:=mkt 0x1d84f524934793b4228
def QAm:AT:=mke 0x1cf19c661d4219588acff30c471 (.rd (some 25) none (.bin .add (.c (.str [97])) (.t 24))
 (.rd (some 26) none (.bin .add (.t 25) (.c (.str [118])))
 (.rd (some 27) none (.mov (.t 7))
 (.rd (some 28) none (.bin .add (.t 26) (.t 27))
 (.rd (some 29) none (.bin .add (.t 28) (.c (.str [91])))
 (.rd (some 30) none (.mov (.t 2))
 (.rd (some 31) none (.bin .add (.t 29) (.t 30))
 (.rd (some 32) none (.bin .add (.t 31) (.c (.str [93])))
 (.rd (some 6) none (.mov (.t 32))
 .done)))))))))
def QAl:AT:=mke 0x284030a (.rd (some 34) none (.bin .add (.c (.str [40])) (.t 33))
 (.rd (some 35) none (.bin .add (.t 34) (.c (.str [32])))
 (.rd (some 36) none (.faddr 3 (.t 3))
 (.rd (some 37) none (.load false 1 (.t 36))
 (.cl false (some 38) none (.c (.fn (.func 83) [] [])) [(.t 37)]
 (.rd (some 39) none (.bin .add (.t 35) (.t 38))
 (.rd (some 40) none (.bin .add (.t 39) (.c (.str [32])))
 (.rd (some 41) none (.mov (.t 2))
 (.rd (some 42) none (.bin .add (.t 40) (.t 41))
 (.rd (some 43) none (.bin .add (.t 42) (.c (.str [41])))
 (.rd (some 6) none (.mov (.t 43))
 .done)))))))))))
def QbB:AF:=⟨44,[.tmp 6],
 (zg QAu []
 (zg QAt [8,9,10]
 (.seq (zg QAs [11]
 (.block 0 (zg QAr [14]
 (zw 13
 (zg QAq [15]
 .ret)
 (zg QAp [17]
 (zw 16
 (zg QAo [18,19]
 .ret)
 (zg QAn [21]
 (zw 20
 (zg QAm [22,23,24,25,26,27,28,29,30,31,32]
 .ret)
 .skip))))))))
 (zg QAl [33,34,35,36,37,38,39,40,41,42,43]
 .ret))))⟩
abbrev Qhj:Nat:=51
def QAk:AT:=mkt 0x2d62e7629b188
def QAj:AT:=mkt 0x7329dfa4198
def QAi:AT:=mkt 0x5308edbfcaeaec1b0
def QAh:AT:=mkt 0x8b04ea26d32c5dcc92416340485619b1c338
def QAg:AT:=mkt 0xf7641dbc11db5741d8
def QAf:AT:=mkt 0xd9c618e35db4de3df7fd2a68f4504bbfb34dd750deb18c044e0
def QAe:AT:=mkt 0x603900d0
def QbC:AF:=⟨17,[.tmp 2],
 (zg QAk []
 (.seq (zg QAj [3]
 (.block 0 (zg QAi [6]
 (zw 5
 (zg QAh [7,8,9]
 .ret)
 (zg QAg [11]
 (zw 10
 (zg QAf [12,13,14,15,16]
 .ret)
 .skip))))))
 (zg QAe []
 .ret)))⟩
abbrev Qhk:Nat:=52
end Go.Proofs.YtoeicjlflmmmcaaGreatDoor
