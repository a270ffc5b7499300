/- The translations of the functions, by a program of mine. -/
import Derived.Test.YtoeicjlflmmmcaaGreatDoorAmD
namespace Go.Proofs.YtoeicjlflmmmcaaGreatDoor
open Go Go.Am
set_option maxRecDepth 100000
set_option maxHeartbeats 4000000
def ump {α β:Type} (g:α→β) (x:Nat→α×Nat) (N:Nat):β×Nat:=match x N with | (a,M)=>(g a,M)
def ubd {α β:Type} (x:Nat→α×Nat) (f:α→Nat→β×Nat) (N:Nat):β×Nat:=match x N with | (a,M)=>f a M
def udg (r N:Nat):Nat×Nat:=(N%r,N/r)
def unt (N:Nat):Nat×Nat:=if N%64<60 then (N%64,N/64) else (N/64%2^(16*(N%64-59)),N/64/2^(16*(N%64-59)))
def uls {α:Type} (x:Nat→α×Nat):Nat→Nat→List α×Nat
 | 0,N=>([],N)
 | k+1,N=>ubd x (fun a=>ump (a::·) (uls x k)) N
def uli {α:Type} (x:Nat→α×Nat):Nat→List α×Nat:=ubd unt fun k=>uls x k
def uoo {α:Type} (x:Nat→α×Nat) (N:Nat):Option α×Nat:=if N%2=0 then (none,N/2) else ump some x (N/2)
def ubo (N:Nat):Bool×Nat:=(N%2==1,N/2)
def uix {α:Type} [Inhabited α] (l:List α) (N:Nat):α×Nat:=(l.getD (N%l.length) default,N/l.length)
def uik:Nat→IntKind×Nat:=uix [.i64,.u8,.u32,.u64,.i32,.u16,.i16,.i8]
def ukd (N:Nat):Kd×Nat:=(match N%3 with | 0=>.i | 1=>.b | _=>.s,N/3)
def uv0 (N:Nat):V×Nat:=(ubd uik fun k=>ubd ubo fun s=>ump (fun n:Nat=>.int k (if s then -(n:Int) else (n:Int))) unt) N
def uv4 (N:Nat):V×Nat:=ump (fun n=>.fn (.func n) [] []) unt N
def uv5 (N:Nat):V×Nat:=ump (fun l:List Nat=>.str (l.map UInt8.ofNat)) (uli unt) N
def uv6 (N:Nat):V×Nat:=(match N%4 with | 0=>.val (.pointer none) | 1=>.val (.map none) | 2=>.val .nilFunc | _=>.val .nilIface,N/4)
def uv7 (N:Nat):V×Nat:=(.int .i64 ((N%16:Nat):Int),N/16)
def uV (N:Nat):V×Nat:=match N%8 with
 | 7=>uv7 (N/8)
 | 0=>uv0 (N/8)
 | 1=>(.bool false,N/8)
 | 2=>(.bool true,N/8)
 | 3=>(.lst 0 [] true,N/8)
 | 4=>uv4 (N/8)
 | 5=>uv5 (N/8)
 | _=>uv6 (N/8)
def uvs:Nat→List V×Nat:=ump List.flatten (uli (ubd unt fun k=>ump (List.replicate k) uV))
def uA (R N:Nat):Arg×Nat:=if N%(R+2)<R then (.t (N%(R+2)),N/(R+2)) else if N%(R+2)=R then ump .c uV (N/(R+2)) else ump .g unt (N/(R+2))
def uB (R D N:Nat):Arg×Nat:=if N%3<2 then (.t (D-1-N%3),N/3) else uA R (N/3)
def upt (R D:Nat):Nat→(Nat×Nat×Arg)×Nat:=ubd unt fun a=>ubd unt fun b=>ump (a,b,·) (uB R D)
def uO0 (R D m N:Nat):AOp×Nat:=
 if m=0 then ump .mov (uA R) N else
 if m=1 then (ubd (ubo) fun a=>ubd (unt) fun b=>ump (.load a b) (uB R D)) N else
 if m=2 then (ubd (ubo) fun a=>ubd (unt) fun b=>ump (.loadi a b) (uB R D)) N else
 if m=3 then (ubd (uix [.add,.sub,.mul,.quo,.rem,.and,.or,.xor,.shl,.shr,.andNot,.eql,.neq,.lss,.leq,.gtr,.geq]) fun a=>ubd (uB R D) fun b=>ump (.bin a b) (uB R D)) N else
 if m=4 then (ubd (uoo unt) fun a=>ubd (unt) fun b=>ubd (uB R D) fun c=>ump (.iaddr a b c) (uB R D)) N else
 (ubd (unt) fun a=>ump (.faddr a) (uB R D)) N
def uO1 (R D m N:Nat):AOp×Nat:=
 if m=6 then (ubd (uB R D) fun a=>ubd (uB R D) fun b=>ump (.pick a b) (uB R D)) N else
 if m=7 then (ubd (unt) fun a=>ubd (uB R D) fun b=>ump (.store a b) (uB R D)) N else
 if m=8 then (ubd (uvs) fun a=>ump (.build a) (uli (upt R D))) N else
 if m=9 then (ubd (unt) fun a=>ump (.new a) (uvs)) N else
 if m=10 then (ubd (unt) fun a=>ump (.len a) (uB R D)) N else
 (ubd (uB R D) fun a=>ump (.extr a) (unt)) N
def uO2 (R D m N:Nat):AOp×Nat:=
 if m=12 then (ubd (ubo) fun a=>ubd (ubo) fun b=>ubd (unt) fun c=>ubd (unt) fun d=>ubd (uvs) fun e=>ubd (unt) fun f=>ump (.bsl a b c d e f) (uli (upt R D))) N else
 if m=13 then (ubd (uix [.neg,.xor,.not,.plus]) fun a=>ump (.un a) (uB R D)) N else
 if m=14 then (ubd (unt) fun a=>ump (.box a) (uB R D)) N else
 if m=15 then ump .nilc (uB R D) N else
 if m=16 then (ubd (uik) fun a=>ump (.conv a) (uB R D)) N else
 (ubd (ubo) fun a=>ubd (uB R D) fun b=>ump (.eqb a b) (uB R D)) N
def uO3 (R D m N:Nat):AOp×Nat:=
 if m=18 then (ubd (ubo) fun a=>ubd (uB R D) fun b=>ump (.eqp a b) (uB R D)) N else
 if m=19 then (ubd (unt) fun a=>ubd (unt) fun b=>ubd (unt) fun c=>ubd (ubo) fun d=>ubd (uB R D) fun e=>ump (.app a b c d e) (uB R D)) N else
 if m=20 then (ubd (unt) fun a=>ubd (uB R D) fun b=>ubd (uoo (uB R D)) fun c=>ubd (uoo (uB R D)) fun d=>ump (.slc a b c d) (uoo (uB R D))) N else
 if m=21 then (ubd (uB R D) fun a=>ump (.sidx a) (uB R D)) N else
 if m=22 then (ubd (ump Fn.func unt) fun a=>ubd (uli (uB R D)) fun b=>ump (.mkfn a b) (uli (uB R D))) N else
 (ubd (ubo) fun a=>ubd (uli ukd) fun b=>ubd (uB R D) fun c=>ubd (uB R D) fun d=>ump (.mapup a b c d) (uB R D)) N
def uO4 (R D m N:Nat):AOp×Nat:=
 if m=24 then (ubd (ubo) fun a=>ubd (ubo) fun b=>ubd (uli ukd) fun c=>ubd (uV) fun d=>ubd (uB R D) fun e=>ump (.look a b c d e) (uB R D)) N else
 if m=25 then (ubd (ubo) fun a=>ubd (uli ukd) fun b=>ubd (uB R D) fun c=>ump (.eqs a b c) (uB R D)) N else
 if m=26 then (ubd (uB R D) fun a=>ump (.maxi a) (uB R D)) N else
 if m=27 then (ubd (uB R D) fun a=>ump (.mini a) (uB R D)) N else
 if m=28 then (ubd (uB R D) fun a=>ubd (uB R D) fun b=>ump (.max3 a b) (uB R D)) N else
 (ubd (unt) fun a=>ubd (uvs) fun b=>ump (.clr a b) (uB R D)) N
def uO5 (R D m N:Nat):AOp×Nat:=
 if m=30 then (ubd (unt) fun a=>ubd (unt) fun b=>ubd (uB R D) fun c=>ubd (uoo (uB R D)) fun d=>ump (.slarr a b c d) (uoo (uB R D))) N else
 if m=31 then (ubd (unt) fun a=>ubd (unt) fun b=>ubd (unt) fun c=>ubd (uvs) fun d=>ubd (uB R D) fun e=>ump (.mksl a b c d e) (uB R D)) N else
 if m=32 then (.mkmap,N) else
 if m=33 then (ubd (ubo) fun a=>ubd (uli ukd) fun b=>ubd (uV) fun c=>ubd (uB R D) fun d=>ump (.ment a b c d) (uB R D)) N else
 if m=34 then (ubd (uB R D) fun a=>ubd (uB R D) fun b=>ump (.mst a b) (uB R D)) N else
 ump .tostr (uB R D) N
def uO6 (R D m N:Nat):AOp×Nat:=
 if m=36 then ump .same (uB R D) N else
 if m=37 then ump .iter (uB R D) N else
 if m=38 then ump .next (uB R D) N else
 if m=39 then ump .entry (uB R D) N else
 if m=40 then (ubd (ubo) fun a=>ubd (unt) fun b=>ubd (unt) fun c=>ubd (uB R D) fun d=>ump (.aidx a b c d) (uB R D)) N else
 (ubd (uB R D) fun a=>ubd (uoo (uB R D)) fun b=>ump (.ssl a b) (uoo (uB R D))) N
def uO7 (R D m N:Nat):AOp×Nat:=
 if m=42 then (ubd (ubo) fun a=>ubd (unt) fun b=>ubd (unt) fun c=>ump (.field a b c) (uB R D)) N else
 if m=43 then (ubd (unt) fun a=>ubd (ubo) fun b=>ubd (uB R D) fun c=>ump (.copy a b c) (uB R D)) N else
 if m=44 then (ubd (unt) fun a=>ubd (unt) fun b=>ubd (ubo) fun c=>ubd (uB R D) fun d=>ump (.appin a b c d) (uB R D)) N else
 (ubd (unt) fun a=>ump (.tobytes a) (uB R D)) N
def uO (R D N:Nat):AOp×Nat:=
 if N%46<6 then uO0 R D (N%46) (N/46) else
 if N%46<12 then uO1 R D (N%46) (N/46) else
 if N%46<18 then uO2 R D (N%46) (N/46) else
 if N%46<24 then uO3 R D (N%46) (N/46) else
 if N%46<30 then uO4 R D (N%46) (N/46) else
 if N%46<36 then uO5 R D (N%46) (N/46) else
 if N%46<42 then uO6 R D (N%46) (N/46) else
 uO7 R D (N%46) (N/46)
def uds (R k D N:Nat):(Option Nat×Nat)×Nat:=match k with
 | 0=>((some D,D+1),N)
 | 1=>((some (N%R),max D (N%R+1)),N/R)
 | _=>((none,D),N)
def ugd (R k:Nat) (g:Option (Nat×Bool)) (N:Nat):(Option (Nat×Bool)×Option (Nat×Bool))×Nat:=match k with
 | 0=>((none,g),N)
 | 1=>((g,g),N)
 | _=>((some (N%R,N/R%2==1),some (N%R,N/R%2==1)),N/R/2)
def uT (R:Nat):Nat→Nat→Nat→Option (Nat×Bool)→AT→Nat→AT×Nat
 | 0,_,_,_,e,N=>(e,N)
 | f+1,k,D,g,e,N=>
  if k=0 then (e,N)
  else match N%28/9 with
  | 3=>(ubd unt fun a=>ubd (uT R f a D g e) fun T=>ubd unt fun b=>ubd (uT R f b D g T) fun s=>ubd unt fun c=>ump (.alt s) (uT R f c D g T)) (N/28)
  | 0=>(ubd (uds R (N%28%3) D) fun d=>ubd (ugd R (N%28/3%3) g) fun h=>ubd (uO R D) fun o=>ump (.rd d.1 h.1 o) (uT R f (k-1) d.2 h.2 e)) (N/28)
  | 1=>(ubd ubo fun m=>ubd (uds R (N%28%3) D) fun d=>ubd (ugd R (N%28/3%3) g) fun h=>ubd (uO R D) fun o=>ump (.wr m d.1 h.1 o) (uT R f (k-1) d.2 h.2 e)) (N/28)
  | _=>(ubd ubo fun m=>ubd (uds R (N%28%3) D) fun d=>ubd (ugd R (N%28/3%3) g) fun h=>ubd (uB R D) fun x=>ubd (uli (uA R)) fun l=>ump (.cl m d.1 h.1 x l) (uT R f (k-1) d.2 h.2 e)) (N/28)
def uae (N:Nat) (e:AT):AT:=(ubd (uix [24,40,64,96,128,192,288,600]) (fun R=>ubd (udg R) fun D=>ubd unt fun k=>uT R 999 k D none e) N).1
@[go_sem] abbrev mkt (N:Nat) {a b:AT} (_:uae N .done=a:=by cbv) (_:a=b:=by first | (simp only [Int.reduceOfNat,Int.reduceNegSucc,UInt8.reduceOfNat]; exact rfl) | exact rfl):AT:=b
@[go_sem] abbrev mke (N:Nat) (e:AT) {f g:AT→AT} (_:∀ e,uae N e=f e:=by intro e; cbv) (_:∀ e,f e=g e:=by intro e; first | (simp only [Int.reduceOfNat,Int.reduceNegSucc,UInt8.reduceOfNat]; exact rfl) | exact rfl):AT:=g e
abbrev zw (a:Nat) (x y:AC):AC:=.cond (.t a) x y
abbrev zg (a:AT) (l:List Nat) (r:AC):AC:=.seq (.reg a l) r
def zq0_0:AT:=mkt 0x363ce1a47e2b1a8
def zq0_1:AT:=mkt 0x2b09b99329eb8a2a58cc84282200942
def zq0_2:AT:=mkt 0x2574e64587b610562
def zq0_3:AT:=mkt 0x163673a48a4ab83fbb087996685d189438597856100f72
def zq0_4:AT:=mkt 0xe84d9e1050a33240b40792
def zq0_5:AT:=mkt 0xc2550120
def Qwr:AT:=mkt 0xf92734addff760fd9ad97009a2
def Qwq:AT:=mkt 0x1b076f9d5e4cd06e3eefc1e7a25c6fc72249f964114b4251289285ad5f668730fd421aa413da
def Qwp:AT:=mkt 0x6974189490e8f0789b36931fbbf91f4353e3d9abaa013b7e81cbdcd71bf9e91a03
def Qwo:AT:=mkt 0x8195bc58bcef9602420c3af1dc99fb19b8866ce8cce83c7821a4b
def QoQ:AT:=mkt 0xf8aa607428f245304c0c6f847601ebb301473
def QoP:AT:=mkt 0x12066092f3fdb74dd007c2
def QHO:AT:=mkt 0xc2550148
def QoO:AT:=mkt 0xb40dde41f182cea13627f060e9b
def QoN:AT:=mkt 0x9e31c129fb36b451f7ad9f2805acd0f57e4b088418cda7b621ad3
def QoM:AT:=mkt 0x62f6799462ac073e8c5f24dea3741dbffc9a70ee9f581efc
def QoL:AT:=mkt 0x2f2b0100
def QoK:AT:=mkt 0x8a0b1be6dadef9de960bbb
def QHN:AT:=mkt 0x3282c36e598a8b23d2d9a066df6a0a82b41fb8afdec468c46b74fc4362b9bf619490902b34
def QHM:AT:=mkt 0x1e63c2c4d85f459afe6690baa393d4810915fa8bc16edc50358237c
def QHL:AT:=mkt 0x29d41257bf56f35355ad862bdf915d448572316a18f488066f1a7095827ac
def QHK:AT:=mkt 0x844da3b33d1357608a3da814c39813dc
def QHJ:AT:=mkt 0x38cc92bc63742b915a6bb3d47500cef7813f4
def QHI:AT:=mkt 0x13a1408057dced311faa1c1605
def QHH:AT:=mke 0xd8ddfaf36f3f600c61936d34179f423fd3b064a1247e8615415d2d322134401d (mkt 0x238282fa86297e3acacd314c4affa0277498226d)
def QHG:AT:=mke 0x2376d4a236aa6b315fc4001a854d40b3ba4e40119b9e059ee9134408d (mkt 0x78825dc842e6ae63b1e3633b71ce71afdfc6f925268068a9eca5c659fbfbcf3add)
def QHF:AT:=mkt 0x2f2b0100
def QHE:AT:=mkt 0x27bbeaed75810d6cd9bda006168e42cd539842325
def QHD:AT:=mkt 0x20d230229
def QoJ:AT:=mkt 0x2b395adc909cd0835ea863c9c1d3d
def QoI:AT:=mkt 0x94cdfa792df155e7ce38cd386aa447395d30be10920abf39306985ef3e24c3b75
def QoH:AT:=mkt 0x9a9fb4bd27c868969cd5e6d9ef8dd79950ec7958666656a58e8191599c24c3bad
def QoG:AT:=mkt 0x1b24affbf0976e1268b26259402d0d91a0fb113130b0d5cf0b303a64de6
def QoF:AT:=mkt 0x7c433de36895265448e16662793e200d0939994225b1e64504f0c6f86a4600e
def QoE:AT:=mkt 0x2f2b0100
def QoD:AT:=mkt 0x10853c86322bddd621bc175d
def QHC:AT:=mkt 0x11e25ec1b474f76dc7ce95732411aebba40139165218118de6f90d8e57a73e725766
def QHB:AT:=mkt 0x127bb6c4c3173175f8aee5998bd2533856cf921f43b30d2c57a263686bc23e72579e
def QHA:AT:=mke 0x51f3460789a0e600fe1e3fcb1c1a6ab59e808e8ec5caa8b97f147df8a206d8cc9ecc60ce (mkt 0x1f41a5f07cc44e0d0ae964959dd42b1ecf3f945576caa9afaf401e092ced81e)
def Xt:AF:=⟨235,[.tmp 8],
 (zg zq0_0 []
 (.seq (zg zq0_1 [40,41,42]
 (zw 43
 (zg zq0_2 [44]
 .ret)
 .skip))
 (zg zq0_3 [46,47,45,48,49,10]
 (zg zq0_4 [50,51]
 (.seq (zg zq0_5 []
 (.block 0 (.loop (.seq (zg Qwr [52,53,54]
 (zw 55
 .skip
 (.exit 0)))
 (.seq (.block 1 (zg Qwq [59,60,61,58,62,63,14]
 (zg Qwp [64,65,66,67,68,69,70]
 (zw 71
 (zg Qwo [73,74,75,72,76,77,15]
 (zg QoQ [78,79,80,81,82]
 .ret))
 .skip))))
 (.reg QoP [56,57]))))))
 (.seq (zg QHO []
 (.block 2 (.loop (.seq (zg QoO [83,84,85]
 (zw 86
 .skip
 (.exit 2)))
 (.seq (.block 3 (zg QoN [90,91,92,89,93,94]
 (zg QoM [95,96,97,98,99,100]
 (zw 101
 (zg QoL []
 .ret)
 .skip))))
 (.reg QoK [87,88]))))))
 (zg QHN [102,103,104,105,106,107,108,109]
 (zg QHM [111,112,113,110,114,115]
 (zg QHL [117,118,119,120,116,121,122]
 (zg QHK [123,124,125]
 (zg QHJ [126,127]
 (.seq (zg QHI [128,129]
 (zw 130
 (zg QHH [131,132,133,134,135,136,137,138,139,140,141,142,143,144]
 .ret)
 .skip))
 (.seq (zg QHG [145,146,147,148,149,150,151,152,153,154,155,156,157,158,159,160,161,162]
 (zw 163
 (zg QHF []
 .ret)
 .skip))
 (zg QHE [164,165,166]
 (.seq (zg QHD []
 (.block 4 (.loop (.seq (zg QoJ [167,168,169]
 (zw 170
 .skip
 (.exit 4)))
 (.seq (.block 5 (zg QoI [174,175,176,177,173,178,179,31]
 (zg QoH [181,182,183,184,180,185,186,33]
 (zg QoG [188,189,190,187,191,192,35]
 (zg QoF [193,194,195,196,197,198,199,200,201]
 (zw 202
 (zg QoE []
 .ret)
 .skip))))))
 (.reg QoD [171,172]))))))
 (zg QHC [204,205,206,207,203,208,209,37]
 (zg QHB [211,212,213,214,210,215,216,39]
 (zg QHA [217,218,219,220,221,222,223,224,225,226,227,228,229,230,231,232,233,234]
 .ret))))))))))))))))))⟩
abbrev Yy:Nat:=3
def zq1_0:AT:=mkt 0x2f2b00c0
def zq1_1:AT:=mkt 0x13cc90299dd8d5c95a16fff4e3e2a7f089c60a19b4c0048e7bc99d36779034918ff59b9acafe8b9d3ac7cec1f10aa33e14f5b140db723b6e6e6cd97209faaf2aab297b1f8
def zq1_2:AT:=mkt 0xd1e5c00d0
def Qwd:AT:=mkt 0x3c2f9df4404f0200
def Qwc:AT:=mkt 0xc25500d8
def QqY:AT:=mkt 0x3dfcca7a259d0328c83a0
def QqX:AT:=mkt 0x7ced4860b9b2ddc30d4ede6653d0f55e6b0b903f2e3a428e418df9ad6b75951b75995b10184d529e76fb4fb4f4a8fc1aaa31155902cb4f724dd0582f48c3e22def62f6956b11aa1745a2dfe4ac26af6094b441cd2
def QqW:AT:=mke 0xb7e7aed9ec92f4880c34e55ac6e6817490afadd52d7ef6ece8c11000765593b3e87f5efb20b8f99bdcfb4506a02331a056a377fa15292b446047a5a6bb6bb748fddeeebe5074f21e5e398a1c5dbe484a6897280c10b6ba9bc988a16698887b73c1f4b (mke 0x8abbf50a3f54b0ed78fabe76be86407ceb01a5937f0572b0ee575dd0ad664e4141561680b1e01f9b (mke 0x1e84f83993d796a3eec0f911bd3c1772961ef982737e646cb71e13a3a903b322fb23b8072404893c2a33963c13eabf632a6afaf0bfaab03e04da31bd69d75ac230b2edc230b5b150fe34729feb (mkt 0xd7a69b96d68bcfa263acf3e3c178d40a294b5c3312feb4c68f2ef4f5caa4595a5ba52f7a17efd7d7fb6f6b4a43259743)))
def QqV:AT:=mkt 0x2f2b00c0
def QqU:AT:=mkt 0x1402515b2ac92b74b8481
def QoC:AT:=mkt 0x86458828fa91f333f02d0
def QGP:AT:=mkt 0x22c86823a912709f1957267bf0e4cd950e12bd6ff95dfe4aa08e755656e74aa3df4281dfd07c155fcedc6b143498e0071f7e2037aed91a007afdd69b5c8e36bb0f979185a385281afbbc6859c98d9742f8af25c38b365527a42d82eb60eec4449690368ab8c5ce090db3602f68f61e578dd588d7cfbf0c64b6738d2a96e6313a37c2dc431bd95153c2cd1a25f530b9e054945b3dfecfcb21f3d6cb23bf23fc557b18fec419e3fec419e401401d73
def QGO:AT:=mkt 0x30efd00f0
def QsB:AT:=mkt 0x5d184cfb89f408b3
def QsA:AT:=mkt 0x8174bd55858051715782f6c612f603acffa3dab0bc02362a4a9f81de2a165dfcd3e5ec3e2291130780f1b071dffab798f7db94d5ef1a87cfed81ed050860cc0fb2d6a24fb8e9ec092918fcfdfbfa390ec02ed4
def Qsz:AT:=mkt 0x4330ea813de6122100511705482a9ea5219e5b7d119d48777ddb9923109044663678afeaddc973273ac7d4a7689795ec6be325a4093cf0a0ea406a1017df47e98da421506ac9bf335cb6c43018b0fd22b4c9182c7ae33087ea8d5b5625682f1c
def Qsy:AT:=mkt 0x2f2b00c0
def Qsx:AT:=mkt 0x8b9bac01682c6235140bc3
def QGN:AT:=mkt 0xa9ce0100
def QGM:AT:=mkt 0x5e53b1da05a7e95129c7bcfff7bfde8de1a837212f4298601f7c
def QGL:AT:=mkt 0x19002dead41b5df5d052449c3f05aee84627a46f95ddd26590601fa4
def QGK:AT:=mkt 0x6cbc46ffdc4a286709e2095164c151f9d6b313d20daf4020a19dc21fcc
def QGJ:AT:=mke 0x34d4249635e9afd0d2960769d8fa558d05782fa1d49750c3358f183fed (mke 0x27f8c84289ebc4f5ef84074d9119e06cf0334e40d1765205a260fe17b411671d1080ee4a51f0e7e38403d (mke 0xf29c1d7322e192adde901d28c8850d5a55570b0b87c6245590d10e8eee219d3ea441ab408d (mke 0x9de70b2b3f93dc2f81f8f3b1391a9f67283479d77e88285029f5a2fe8348c46584703ae71b971d48641a61277ec5a9b5e5651682a340dd (mke 0x1e29ea58ab337087a874409fd514a2b08e201d954944b47c939c9a3e04cc5f47ff2df3dad288f1d1080ee423b5d40f60412d (mkt 0xfa5de45545051726545530e7fb6ce58f940392036b0b97d2fef4c652890898a3f060dc80aae76915cc02b5b823eb5594fe31249972fa02437cb1660f166ac0036e760ce544b5cc11ca9b5c71f419bc06a9892ad385aea6565168615537d)))))
def Xu:AF:=⟨187,[.tmp 0],
 (zg zq1_0 []
 (zg zq1_1 [15]
 (.seq (zg zq1_2 []
 (.block 0 (.loop (.seq (zg Qwd [16]
 (zw 17
 .skip
 (.exit 0)))
 (.seq (.block 1 (zg Qwc []
 (.block 2 (.loop (.seq (zg QqY [20,21,22]
 (zw 23
 .skip
 (.exit 2)))
 (.seq (.block 3 (zg QqX [26,27,28,29,30,31,32,33,34,35,36,37,38,39,40]
 (zg QqW [41,42,43,44,45,46,47,48,49,50,51,52,53,54,55,56,57,58,59,60,61,62,63,64,65,66,67,68,69,70,71,72,73,74,75,76]
 (zw 77
 (zg QqV []
 .ret)
 .skip))))
 (.reg QqU [24,25])))))))
 (.reg QoC [18,19]))))))
 (zg QGP [78,79,80,81,82,83,84,85]
 (.seq (zg QGO []
 (.block 4 (.loop (.seq (zg QsB [86]
 (zw 87
 .skip
 (.exit 4)))
 (.seq (.block 5 (zg QsA [90,91,92,93,94,95,96,97,98]
 (zg Qsz [99,100,101,102,103,104,105,106,107,108]
 (zw 109
 (zg Qsy []
 .ret)
 .skip))))
 (.reg Qsx [88,89]))))))
 (zg QGN []
 (zg QGM [111,112,110,113,114,9]
 (zg QGL [116,117,115,118,119,11]
 (zg QGK [121,122,120,123,124,13]
 (zg QGJ [125,126,127,128,129,130,131,132,133,134,135,136,137,138,139,140,141,142,143,144,145,146,147,148,149,150,151,152,153,154,155,156,157,158,159,160,161,162,163,164,165,166,167,168,169,170,171,172,173,174,175,176,177,178,179,180,181,182,183,184,185,186]
 .ret))))))))))⟩
abbrev ZJ:Nat:=4
def zq2_0:AT:=mkt 0x363c60dfbe2b1a0
def zq2_1:AT:=mkt 0xc25500f8
def zq2_2:AT:=mkt 0xc2550100
def zq2_3:AT:=mkt 0x1d65ea7b929b3d00c0348
def zq2_4:AT:=mkt 0xecc051bf28b22a9c892b5d78eb8c004f8
def zq2_5:AT:=mkt 0x26e026a5d03d0d4682e8
def zq2_6:AT:=mkt 0x18bea5332c97ae3802a8
def zq2_7:AT:=mke 0xa0821ad63c4470b8eef251ae52d60dda4a4936a27d6772e9c98c014ba (mkt 0x50d6ee1ac3125a245d48bec2b51ec8bcf06d4384aeddc2f7efaef9ca340aa0f8fb335c2f3f39035170a)
def YQ:AF:=⟨43,[.tmp 6],
 (zg zq2_0 []
 (zg zq2_1 []
 (.seq (zg zq2_2 []
 (.block 0 (.loop (.seq (zg zq2_3 [9,10,11]
 (zw 12
 .skip
 (.exit 0)))
 (.seq (.block 1 (zg zq2_4 [15,16,17,18,19]
 (zw 20
 (.reg zq2_5 [21,22])
 .skip)))
 (.reg zq2_6 [13,14]))))))
 (zg zq2_7 [23,24,25,26,27,28,29,30,31,32,33,34,35,36,37,38,39,40,41,42]
 .ret))))⟩
abbrev QbJ:Nat:=5
def zq3_0:AT:=mkt 0x2f2b00c0
def zq3_1:AT:=mkt 0x7d7afb0e8f42f084668bf901c8b81f93d44ff73e7003715ab19978f15a1a7a49a73229010e82fd90221a6f3f4b7e55ffd912798b34388fc12c92ae720d11798aca172b3642a187fcf519eda5de114e6441d246418556587d5b49a0b2b838eddeb83ad54ac277ac63fb10678ffb10679005008a0
def zq3_2:AT:=mkt 0xd2887a3616877d7f82e0
def zq3_3:AT:=mkt 0x2931d6b735c10d15f1fe1b6164f0e20346142c27a0c89df2a1607a87478d39
def zq3_4:AT:=mkt 0x3d7c1c54c71bff98acaef58febc0492eb42e939722a0539ebea263ae397a5e7e8d4dece8273f80c1afa
def zq3_5:AT:=mkt 0xa0459daccca5467cee7a6514b6f0d68d716bb0c60cd8190287c29dd3f80c1552
def zq3_6:AT:=mkt 0x380a89e8546950ec35043a5b2528948b9fa4d51cc66170bfb6d40b8a
def zq3_7:AT:=mke 0x10265e2fa75e1ab4767eac56a4f9c6df9ff0bcf233a73fdf1b3e1fab (mke 0x1640ae6401381bc2cf2b05d57971e9cdd0919316977b71a186bfb6b3a3bfba604aa1ffb (mkt 0x1061ce534b8e2517b33d6b51f003080376bd7b7914b))
def Yh:AF:=⟨77,[.tmp 0],
 (zg zq3_0 []
 (zg zq3_1 [12,13,14,15,16,17,11,18,19]
 (zg zq3_2 [20,21]
 (zg zq3_3 [23,24,25,26,27,22,28,29]
 (zg zq3_4 [31,32,33,34,35,36,37,38,30,39,40]
 (zg zq3_5 [42,43,44,45,46,41,47,48]
 (zg zq3_6 [49,50,51,52]
 (zg zq3_7 [53,54,55,56,57,58,59,60,61,62,63,64,65,66,67,68,69,70,71,72,73,74,75,76]
 .ret))))))))⟩
abbrev Qa2:Nat:=6
def QKm:AT:=mkt 0x62564b3ce0190
def QKl:AT:=mkt 0x548c6a4294861b8
def QKk:AT:=mkt 0x603900e8
def QKj:AT:=mkt 0xc25500f0
def QKi:AT:=mkt 0x1a6f790756b30ce290340
def QKh:AT:=mkt 0x229e9fba889c9ce55a15e335d78d6e7cb9a04a2fe010fe5df568a98eded760719787f0
def QKg:AT:=mkt 0x16f9962d22f06c5502a0
def QKf:AT:=mkt 0x84a60f19d7ed14300205b9
def Yr:AF:=⟨25,[.tmp 2,.tmp 3],
 (zg QKm []
 (zg QKl [7]
 (zg QKk []
 (.seq (zg QKj []
 (.block 0 (.loop (.seq (zg QKi [8,9,10]
 (zw 11
 .skip
 (.exit 0)))
 (.seq (.block 1 (.reg QKh [14,15,16,17,18,19,20,21,22]))
 (.reg QKg [12,13]))))))
 (zg QKf [23,24]
 .ret)))))⟩
abbrev Qap:Nat:=7
def QKe:AT:=mkt 0xa9ce00d0
def QKd:AT:=mkt 0x61fcb7d2801a0
def QKc:AT:=mkt 0xa9ce00d0
def QKb:AT:=mkt 0x253b73fcc460a4448c6c7614ed2c7bc625b565f9d03e80c9c330787af04b0
def QKa:AT:=mkt 0x7c15ca4088127a21653f82f1e69a1b46759eba69b4b8875f856bca8ba3d14c8dade660be35edc614195ac1f2e1e59aca1d8c567a0f3c8898
def QJ9:AT:=mkt 0x5ce29bb183f73ca4770efe31fdd3d5f3382e8
def QJ8:AT:=mkt 0x4ddf486b88341
def Qcm:AF:=⟨25,[.tmp 2],
 (zg QKe []
 (.seq (zg QKd [4]
 (zw 5
 (zg QKc []
 .ret)
 .skip))
 (zg QKb [6,7,8,9,10]
 (zg QKa [11,12,13,14,15,16,17,18,19,20]
 (zg QJ9 [21,22,23]
 (zg QJ8 [24]
 .ret))))))⟩
abbrev QdC:Nat:=8
def zq6_0:AT:=mkt 0xc25500d0
def zq6_1:AT:=mkt 0x61fcb7d280198
def zq6_2:AT:=mkt 0xc25500d0
def zq6_3:AT:=mkt 0x293d2d6e7093a223e449ad55c04a8
def ZD:AF:=⟨10,[.tmp 2],
 (zg zq6_0 []
 (.seq (zg zq6_1 [3]
 (zw 4
 (zg zq6_2 []
 .ret)
 .skip))
 (zg zq6_3 [5,6,7,8,9]
 .ret)))⟩
abbrev Y3:Nat:=9
def zq7_0:AT:=mkt 0x1daa0ca8833c7fd8833c805cf531a0
def zq7_1:AT:=mkt 0xcaadb1c403dbe9cee980330
def zq7_2:AT:=mkt 0x3329b8a13210bcb510678ffb1067900500290
def zq7_3:AT:=mkt 0x485d4fce1cdb5b55f15f6cd3675dec7fa909ad55c0718
def ZE:AF:=⟨18,[.cell 4 true 6,.tmp 5],
 (zg zq7_0 []
 (.seq (zg zq7_1 [6,7,8]
 (zw 9
 (zg zq7_2 [10]
 .ret)
 .skip))
 (zg zq7_3 [11,12,13,14,15,16,17]
 .ret)))⟩
abbrev X1:Nat:=10
def QJ7:AT:=mkt 0xc0d1a7b901a0
def QJ6:AT:=mkt 0xcaae66334f7291046980338
def QJ5:AT:=mkt 0xc0d1a7b901a0
def QJ4:AT:=mke 0xcf333178266b12aa5c0418 (.rd (some 16) none (.look false false [.i] (.agg [(.int .i64 0),(.int .i64 0),(.int .i64 0),(.int .i64 0),(.int .i64 0),(.int .i64 0),(.int .i64 0),(.int .i64 0),(.int .i64 0),(.int .i64 0),(.int .i64 0),(.int .i64 0),(.int .i64 0),(.int .i64 0),(.int .i64 0),(.int .i64 0),(.int .i64 0),(.int .i64 0),(.int .i64 0),(.int .i64 0),(.int .i64 0),(.int .i64 0),(.int .i64 0),(.int .i64 0),(.int .i64 0),(.int .i64 0),(.int .i64 0),(.int .i64 0),(.int .i64 0),(.int .i64 0),(.int .i64 0),(.int .i64 0),(.int .i64 0),(.int .i64 0),(.int .i64 0),(.int .i64 0),(.int .i64 0),(.int .i64 0),(.int .i64 0),(.int .i64 0),(.int .i64 0),(.int .i64 0),(.int .i64 0),(.int .i64 0),(.int .i64 0),(.int .i64 0),(.int .i64 0),(.int .i64 0),(.int .i64 0),(.int .i64 0),(.int .i64 0),(.int .i64 0),(.int .i64 0),(.int .i64 0),(.int .i64 0),(.int .i64 0),(.int .i64 0),(.int .i64 0),(.int .i64 0),(.int .i64 0),(.int .i64 0),(.int .i64 0),(.int .i64 0),(.int .i64 0)]) (.t 14) (.t 15))
 (.wr false (some 6) none (.new 85 (List.replicate 64 [(.int .i64 0)]).flatten)
 (.wr false none none (.store 64 (.t 6) (.t 16))
 .done)))
def QJ3:AT:=mkt 0x1b5f891ddfa73fb69050f89c6f51378388
def Xn:AF:=⟨19,[.tmp 4,.tmp 5],
 (zg QJ7 []
 (.seq (zg QJ6 [7,8,9]
 (zw 10
 (zg QJ5 []
 .ret)
 .skip))
 (zg QJ4 [11,12,13,14,15,16]
 (zg QJ3 [17,18]
 .ret))))⟩
abbrev Q4:Nat:=11
def zq9_0:AT:=mkt 0xc25500e0
def zq9_1:AT:=mkt 0x3b9100d32d81a8
def zq9_2:AT:=mkt 0xc25500e0
def zq9_3:AT:=mkt 0x221b9666bc80ea0ea7b21e7fc1f6c84780638
def Y1:AF:=⟨14,[.tmp 4],
 (zg zq9_0 []
 (.seq (zg zq9_1 [5]
 (zw 6
 (zg zq9_2 []
 .ret)
 .skip))
 (zg zq9_3 [7,8,9,10,11,12,13]
 .ret)))⟩
abbrev Qcc:Nat:=12
def QJ2:AT:=mkt 0xc0d153a5501a0
def QJ1:AT:=mkt 0xcaae66334f7291046980338
def QJ0:AT:=mkt 0xc0d153a5501a0
def QJZ:AT:=mke 0x69e058b735219679ad22c004d8 (.rd (some 17) none (.look false false [.i] (.agg [(.int .i64 0),(.int .i64 0),(.int .i64 0),(.int .i64 0),(.int .i64 0),(.int .i64 0),(.int .i64 0),(.int .i64 0),(.int .i64 0),(.int .i64 0),(.int .i64 0),(.int .i64 0),(.int .i64 0),(.int .i64 0),(.int .i64 0),(.int .i64 0),(.int .i64 0),(.int .i64 0),(.int .i64 0),(.int .i64 0),(.int .i64 0),(.int .i64 0),(.int .i64 0),(.int .i64 0),(.int .i64 0),(.int .i64 0),(.int .i64 0),(.int .i64 0),(.int .i64 0),(.int .i64 0),(.int .i64 0),(.int .i64 0),(.int .i64 0),(.int .i64 0),(.int .i64 0),(.int .i64 0),(.int .i64 0),(.int .i64 0),(.int .i64 0),(.int .i64 0),(.int .i64 0),(.int .i64 0),(.int .i64 0),(.int .i64 0),(.int .i64 0),(.int .i64 0),(.int .i64 0),(.int .i64 0),(.int .i64 0),(.int .i64 0),(.int .i64 0),(.int .i64 0),(.int .i64 0),(.int .i64 0),(.int .i64 0),(.int .i64 0),(.int .i64 0),(.int .i64 0),(.int .i64 0),(.int .i64 0),(.int .i64 0),(.int .i64 0),(.int .i64 0),(.int .i64 0)]) (.t 15) (.t 16))
 (.cl true (some 18) none (.c (.fn (.func 33) [] [])) [(.c (.int .i64 0))]
 (.cl false (some 19) none (.c (.fn (.func 32) [] [])) [(.t 11),(.t 17),(.t 18)]
 (.rd (some 6) none (.mov (.t 19))
 .done))))
def QJY:AT:=mkt 0x3781eec4ec8a1c03a0
def QJX:AT:=mkt 0xc0d153a5501a0
def QJW:AT:=mkt 0x33e3f6a9138cbe80481
def Xg:AF:=⟨25,[.tmp 4,.tmp 5],
 (zg QJ2 []
 (.seq (zg QJ1 [7,8,9]
 (zw 10
 (zg QJ0 []
 .ret)
 .skip))
 (zg QJZ [11,12,13,14,15,16,17,18,19]
 (.seq (zg QJY [20,21,22]
 (zw 23
 (zg QJX []
 .ret)
 .skip))
 (zg QJW [24]
 .ret)))))⟩
abbrev XJ:Nat:=13
def QJV:AT:=mkt 0xc0d153a5501b0
def QJU:AT:=mkt 0xc37a09641614494bf772311e3b16d550d1e0fbfc24c7210469807c8
def QJT:AT:=mkt 0xc0d153a5501b0
def QJS:AT:=mke 0x1cc77d9b13d6ab14633a3400819 (.rd (some 25) none (.look false false [.i] (.agg [(.int .i64 0),(.int .i64 0),(.int .i64 0),(.int .i64 0),(.int .i64 0),(.int .i64 0),(.int .i64 0),(.int .i64 0),(.int .i64 0),(.int .i64 0),(.int .i64 0),(.int .i64 0),(.int .i64 0),(.int .i64 0),(.int .i64 0),(.int .i64 0),(.int .i64 0),(.int .i64 0),(.int .i64 0),(.int .i64 0),(.int .i64 0),(.int .i64 0),(.int .i64 0),(.int .i64 0),(.int .i64 0),(.int .i64 0),(.int .i64 0),(.int .i64 0),(.int .i64 0),(.int .i64 0),(.int .i64 0),(.int .i64 0),(.int .i64 0),(.int .i64 0),(.int .i64 0),(.int .i64 0),(.int .i64 0),(.int .i64 0),(.int .i64 0),(.int .i64 0),(.int .i64 0),(.int .i64 0),(.int .i64 0),(.int .i64 0),(.int .i64 0),(.int .i64 0),(.int .i64 0),(.int .i64 0),(.int .i64 0),(.int .i64 0),(.int .i64 0),(.int .i64 0),(.int .i64 0),(.int .i64 0),(.int .i64 0),(.int .i64 0),(.int .i64 0),(.int .i64 0),(.int .i64 0),(.int .i64 0),(.int .i64 0),(.int .i64 0),(.int .i64 0),(.int .i64 0)]) (.t 23) (.t 24))
 (.rd (some 26) none (.mov (.t 0))
 (.rd (some 27) none (.nilc (.t 26))
 (.rd (some 28) none (.faddr 4 (.t 27))
 (.rd (some 29) none (.load false 1 (.t 28))
 (.rd (some 30) none (.mov (.t 2))
 (.rd (some 31) none (.look false false [.i] (.agg [(.int .i64 0),(.int .i64 0),(.int .i64 0),(.int .i64 0),(.int .i64 0),(.int .i64 0),(.int .i64 0),(.int .i64 0),(.int .i64 0),(.int .i64 0),(.int .i64 0),(.int .i64 0),(.int .i64 0),(.int .i64 0),(.int .i64 0),(.int .i64 0),(.int .i64 0),(.int .i64 0),(.int .i64 0),(.int .i64 0),(.int .i64 0),(.int .i64 0),(.int .i64 0),(.int .i64 0),(.int .i64 0),(.int .i64 0),(.int .i64 0),(.int .i64 0),(.int .i64 0),(.int .i64 0),(.int .i64 0),(.int .i64 0),(.int .i64 0),(.int .i64 0),(.int .i64 0),(.int .i64 0),(.int .i64 0),(.int .i64 0),(.int .i64 0),(.int .i64 0),(.int .i64 0),(.int .i64 0),(.int .i64 0),(.int .i64 0),(.int .i64 0),(.int .i64 0),(.int .i64 0),(.int .i64 0),(.int .i64 0),(.int .i64 0),(.int .i64 0),(.int .i64 0),(.int .i64 0),(.int .i64 0),(.int .i64 0),(.int .i64 0),(.int .i64 0),(.int .i64 0),(.int .i64 0),(.int .i64 0),(.int .i64 0),(.int .i64 0),(.int .i64 0),(.int .i64 0)]) (.t 29) (.t 30))
 (.cl false (some 32) none (.c (.fn (.func 32) [] [])) [(.t 19),(.t 25),(.t 31)]
 (.rd (some 8) none (.mov (.t 32))
 .done)))))))))
def QJR:AT:=mkt 0x957182d71a60240609
def QJQ:AT:=mkt 0xc0d153a5501b0
def QJP:AT:=mkt 0x33e414a261c974504e9
def Q5:AF:=⟨38,[.tmp 6,.tmp 7],
 (zg QJV []
 (.seq (zg QJU [9,10,11,12,13,14,15,16,17]
 (zw 18
 (zg QJT []
 .ret)
 .skip))
 (zg QJS [19,20,21,22,23,24,25,26,27,28,29,30,31,32]
 (.seq (zg QJR [33,34,35]
 (zw 36
 (zg QJQ []
 .ret)
 .skip))
 (zg QJP [37]
 .ret)))))⟩
abbrev Xq:Nat:=14
def QJO:AT:=mkt 0x2d62ed662b198
def QJN:AT:=mkt 0x61fcb7d2801e0
def QJM:AT:=mkt 0x603900e0
def QJL:AT:=mkt 0x22b0c74669c105f1e3c3ea8dc2f907072d48ad98b38ca9c0670
def QJK:AT:=mkt 0xad954f9a938868220
def QJJ:AT:=mkt 0x12b1b440b228
def QJI:AT:=mkt 0xaba5a3c445c33dab980ac97a40831
def Qvb:AT:=mkt 0x64ba4221
def Qva:AT:=mkt 0x119484a97afb01a7626bfc0000e556d327b247d469cba138869
def Qu9:AT:=mkt 0x1f7d20f4bc381
def QoB:AT:=mkt 0x87cf3ad3dd3dcb4399
def QoA:AT:=mkt 0x1b66d749950692e9f65848de9091970286845f7453bcbc86e863c132a
def Qoz:AT:=mkt 0x772df8c055a
def Qoy:AT:=mke 0xc7ae6537e8b42aff06f4003e0bdb118627d6d5646e863c1572 (mkt 0xe5291c110fea0de7bd906f9a947cbec0b737af0bc2)
def Qox:AT:=mkt 0x3a3f2d5bd5fc144a3c0952ae02c67c224df3a379244a9b640d2dd3ecd604ff94192f81b64d9839aa128db
def Qow:AT:=mkt 0x59cf82793e62d07470843
def Qov:AT:=mke 0x55eda382e17bb9818d3757da8386187c59edc8a0d573eaedfbc9aa1204b (mkt 0x213849b901a664897ea5af5e28e972475b898e01dcdf82aea8b509e9a9b)
def Qou:AT:=mkt 0x7182bb661a898334708db
def Qot:AT:=mkt 0x2fa13ac3dde4c979327dd1f8f19365b6c6ad83cb4ef1c153e40673cf1e96e429ff5bbdae58ce2c36e4
def Qos:AT:=mkt 0x65703d940a1cc8ac0b44
def Qvc:AT:=mkt 0x3f44c689a662c0b4c
def XC:AF:=⟨106,[.tmp 4],
 (zg QJO []
 (.seq (zg QJN [12]
 (zw 13
 (zg QJM []
 .ret)
 .skip))
 (zg QJL [14,15,16,17,18,19]
 (zg QJK [20]
 (zg QJJ [21]
 (.seq (zg QJI [22,23,24]
 (.block 0 (.loop (zg Qvb []
 (.seq (zw 28
 .skip
 (.exit 0))
 (.seq (.block 1 (zg Qva [29,30,31]
 (zg Qu9 [32]
 (.block 2 (zg QoB [35]
 (zw 34
 (.seq (zg QoA [37,38,39,40,36,41,42,10]
 (zg Qoz [43]
 (zw 44
 (.reg Qoy [46,47,48,49,50,51,52,53,54,55,56,45,57,58])
 .skip)))
 (.reg Qox [59,60,61,62,63,64,65,66,67,68,69,70]))
 (zg Qow [72]
 (zw 71
 (.reg Qov [73,74,75,76,77,78,79,80,81,82,83,84,85,86,87,88,89])
 (zg Qou [91]
 (zw 90
 (.reg Qot [92,93,94,95,96,97,98,99,100,101,102,103])
 .skip))))))))))
 (.reg Qos [104])))))))
 (zg Qvc [105]
 .ret)))))))⟩
abbrev Xf:Nat:=15
def QJH:AT:=mkt 0x2d87af385df30d0
def QJG:AT:=mkt 0x61fcb7d2801b0
def QJF:AT:=mkt 0x4c42a177b0f5e66d01c0
def QJE:AT:=mkt 0xefe9430b602d7ed90cc111e8f0aa04533c69c03ed84e0b38ca9c0648
def QJD:AT:=mkt 0x26c963a16f77ccf4199ca4026a37a886eb1bede63f7eaf1dad301c5e9b2d4f4d9af6aa3e6c2685240f79
def QJC:AT:=mkt 0x64ba4219
def QJB:AT:=mkt 0xc7bba5c85533334804a1
def QJA:AT:=mkt 0x167083ebf448f5e73943a5499b35dd1ee2814f1e38b69de63dc59bd2fd9e4af1
def QJz:AT:=mkt 0x5e343eea2c06d643a9
def QJy:AT:=mkt 0x7d1d5169e2543b1
def Xi:AF:=⟨39,[.cell 2 true 2],
 (zg QJH []
 (.seq (zg QJG [6]
 (zw 7
 (zg QJF [8]
 .ret)
 .skip))
 (zg QJE [9,10,11,12,13,14]
 (.seq (zg QJD [15,16,17,18,19,20,21,22,23]
 (.block 0 (.loop (zg QJC []
 (.seq (zw 27
 .skip
 (.exit 0))
 (.seq (.block 1 (zg QJB [28,29]
 (.reg QJA [30,31,32,33,34,35,36])))
 (.reg QJz [37])))))))
 (zg QJy [38]
 .ret)))))⟩
abbrev QZ:Nat:=16
def zqe_0:AT:=mkt 0xa7e7dd18fe193b250
def zqe_1:AT:=mkt 0x289be6e1ebe5e8f40533aded2d8698e88a96c1f28a08c639e819fbcc7a8
def zqe_2:AT:=mkt 0x2f2b00e0
def zqe_3:AT:=mkt 0x27c258fd33d4623f74d7eeb398c87cb0bc438
def Qbl:AF:=⟨19,[.tmp 4],
 (zg zqe_0 []
 (.seq (zg zqe_1 [5,6,7,8,9,10,11,12,13]
 (zw 14
 (zg zqe_2 []
 .ret)
 .skip))
 (zg zqe_3 [15,16,17,18]
 .ret)))⟩
abbrev Qbd:Nat:=17
def zqf_0:AT:=mkt 0x51715966a8d1abbd7b250
def zqf_1:AT:=mkt 0x180039c6d373a979b097f6da60b6afdbfd1950aa1f1b8744a18a283a4f83e84960
def zqf_2:AT:=mkt 0x6f0353e3c43188341
def zqf_3:AT:=mkt 0x1df207c9782e92c98349
def zqf_4:AT:=mkt 0x377bdcc56add51036d5e16618c512fd48bd95540232dc991
def zqf_5:AT:=mkt 0x547f3a4ea1cf77540232dc741
def QJx:AT:=mkt 0xb5c27d3a9
def QJw:AT:=mkt 0x2e2d29113ca5778873a
def QJv:AT:=mkt 0x8030f11005b958a98f0d7361ea317656f62742d580b4a
def zqf_9:AT:=mkt 0x278691dda3528056a
def QBJ:AT:=mkt 0x194c9fb5caa7d8077a
def Qsk:AT:=mkt 0xa12a0392
def Qsj:AT:=mkt 0x5a0b3f04d266f1f40079a
def Qsi:AT:=mkt 0x41e98ddae3b12e32e3c61650d043cd5e1633cdcdf1a4001c429a0018aed39921e57965a547f62ffccf451619b2
def Qsh:AT:=mkt 0x4f2b7284605f2
def Qsg:AT:=mkt 0xd3cc5299c22ee6b080b
def Qsf:AT:=mkt 0x5ac9ed5a9c21accdc1fe68e9e95281691413
def Qse:AT:=mkt 0xb74a922caa21318ac709c956312127619e4bedb9e5ff7be81691443
def Qsd:AT:=mkt 0x20b1db63077d8fd6daead04176370227116d5e8e320a281691d6b
def Qsc:AT:=mkt 0x6b46183895e39eca308b3
def Qsb:AT:=mke 0x158444e4ea298d987c6fb254b7732d86bfac4c2e337fad1599b1942abc (mkt 0x25eabfdd1885b5ef71c367dc3e38a81e66f1ff4e37f6c298f45d9d84699f593183a3c246b174f2e1f1c68d70dd2382314)
def Qsa:AT:=mkt 0x65712c67f40555bc0b44
def QBI:AT:=mkt 0x874c0e5b19440b4c
def Zb:AF:=⟨106,[.cell 4 true 2],
 (zg zqf_0 []
 (.seq (zg zqf_1 [12,13,14,15,16,17,18,19,20,21,22]
 (zw 23
 (zg zqf_2 [24]
 .ret)
 .skip))
 (zg zqf_3 [25]
 (zg zqf_4 [26,27,28,29,30,31]
 (.seq (zg zqf_5 [32,33,34,35]
 (.block 0 (.loop (zg QJx [37]
 (.seq (zw 38
 .skip
 (.exit 0))
 (.block 1 (zg QJw [39,40]
 (.reg QJv [41,42,43,44]))))))))
 (zg zqf_9 [45,46]
 (.seq (zg QBJ []
 (.block 2 (.loop (zg Qsk []
 (.seq (zw 50
 .skip
 (.exit 2))
 (.seq (.block 3 (zg Qsj [51,52]
 (zg Qsi [54,55,56,57,58,59,53,60,61,11]
 (zg Qsh [62]
 (.block 4 (zg Qsg [65]
 (zw 64
 (.seq (.block 5 (.loop (.seq (zg Qsf [66,67,68,69,70]
 (zw 71
 .skip
 (.exit 5)))
 (.block 6 (.reg Qse [72,73,74,75,76])))))
 (.reg Qsd [77,78,79,80,81,82,83,84]))
 (zg Qsc [86]
 (zw 85
 (.reg Qsb [87,88,89,90,91,92,93,94,95,96,97,98,99,100,101,102,103])
 .skip)))))))))
 (.reg Qsa [104])))))))
 (zg QBI [105]
 .ret))))))))⟩
abbrev Yz:Nat:=18
def zqg_0:AT:=mkt 0xddafaabf646a7be2b260
def zqg_1:AT:=mkt 0x396951166523b12cbd25b79297bd4a94a737fe1662828cbd8a6214b021e19993adc07d8
def zqg_2:AT:=mkt 0x119b6e18210
def zqg_3:AT:=mkt 0xc0d153a5501b0
def zqg_4:AT:=mkt 0x16d7fff4c2019e613732b0b010c0460
def QhK:AF:=⟨23,[.tmp 6,.tmp 7],
 (zg zqg_0 []
 (zg zqg_1 [11,12,13,14,15,10,16,17]
 (.seq (zg zqg_2 [18]
 (zw 19
 (zg zqg_3 []
 .ret)
 .skip))
 (zg zqg_4 [20,21,22]
 .ret))))⟩
abbrev Qc8:Nat:=19
def zqh_0:AT:=mkt 0xc25500e0
def zqh_1:AT:=mkt 0x2634c00e8
def zqh_2:AT:=mkt 0xc25500f0
def zqh_3:AT:=mkt 0x12e32d5219c868dc093a6d169d2385b2349d7c890dce290638
def zqh_4:AT:=mkt 0x50a186bfda4beb4e8b364eca8ee3500508
def zqh_5:AT:=mkt 0x21e59589131c87d56aebb7c914cc86f9
def zqh_6:AT:=mkt 0x1c464e0b5e666c5502b8
def zqh_7:AT:=mkt 0x2ada995d90a5c8499
def X6:AF:=⟨29,[.tmp 4],
 (zg zqh_0 []
 (zg zqh_1 []
 (.seq (zg zqh_2 []
 (.block 0 (.loop (.seq (zg zqh_3 [7,8,9,10,11,12,13]
 (zw 14
 .skip
 (.exit 0)))
 (.seq (.block 1 (zg zqh_4 [17,18,19,20,21]
 (zw 22
 (.reg zqh_5 [23,24,25,26])
 .skip)))
 (.reg zqh_6 [15,16]))))))
 (zg zqh_7 [27,28]
 .ret))))⟩
abbrev QaL:Nat:=20
def zqi_0:AT:=mkt 0x2f2b00e0
def zqi_1:AT:=mke 0x2586fc43d26675ea2e485ea733bc965c8c650cfb183cc07a8 (mkt 0x1f0638a3cd0028ba5ea95a49db07dea6eb6213aabdd8181122c8d6d0ba0678)
def Yf:AF:=⟨22,[.tmp 4],
 (zg zqi_0 []
 (zg zqi_1 [5,6,7,8,9,10,11,12,13,14,15,16,17,18,19,20,21]
 .ret))⟩
abbrev Qa0:Nat:=21
def zqj_0:AT:=mkt 0x363c60dfbe2b1a0
def zqj_1:AT:=mkt 0x1af91d56875cbcc993f8ae285ae57eaee9974f808621f5ff503ed3640c01
def zqj_2:AT:=mkt 0x6fbc51f44840a389
def zqj_3:AT:=mkt 0xc25500f8
def Qu8:AT:=mkt 0x1c1faebc795ca3a6818611
def Qu7:AT:=mke 0x9de96a81c3d919801cc150c1c9b1f60cd56815a6ed4e1bd1c01542 (mkt 0x3b958b4b05e68b397fab6ac7f43a7206de5a08ded98b9ed07785ca61bc00081dd47523cc1fc956a5871992)
def Qu6:AT:=mkt 0x34c73d5f87b6105f2
def Qu5:AT:=mkt 0x1f371253653d83d9584f1
def zqj_8:AT:=mkt 0x98ed3882174ac282b7aac4cda4dc3492a5481a62e981703
def zqj_9:AT:=mkt 0x90af85412ebcb5acac80b23
def QBH:AT:=mkt 0x60390118
def QBG:AT:=mkt 0xc2550120
def Qor:AT:=mkt 0x9829bc3a276a3bfa61de1c80e33
def Qoq:AT:=mkt 0x8850c5325523e03689aa4bb4752e37f6e052cdc20b683c3bc1a6b
def Qop:AT:=mkt 0x109717a40893
def Qoo:AT:=mkt 0x2f2b00f0
def Qon:AT:=mkt 0x1a7e2e1f5a66bf3845bd865bba66b97514563c650c86b90ce5d59bedf467b35fd9fc95dc301dab
def Qom:AT:=mke 0xc92b73b5bebb0143c74974d5ba615dd1ec741d3c0e0baec4a573aa5216f61c32e8c2ad4 (mkt 0xbb7266770a6d22814dd3ac0e6a23f6ba6c77bbafde45909775222f0b0e8689061111e2024f280ff4bdc044347f8fe36be3724)
def Qol:AT:=mkt 0x14e08251552288bf7b801ed8138c
def Qok:AT:=mkt 0x75a65541fe0aa94bb80b53
def QBF:AT:=mkt 0x3fa18118a87b2bfa2a700fa4
def QBE:AT:=mkt 0xc2550150
def Qoj:AT:=mkt 0xb7813301bab6a7a3b1013b4
def Qoi:AT:=mke 0x2e645026f73cc075c682947aaf8c33f9b717e16ee08eeb975e47defc43fe5 (mkt 0xa5af74abc218aca20ec0a60a930a4cf9d7fcbdf96892bc60003c955fa0bc9ee2a1e5368d6a84e27875235)
def Qoh:AT:=mkt 0x2f2b00f0
def Qog:AT:=mkt 0x25b96fb30992053a1d00fd4
def QBD:AT:=mkt 0xc2550158
def Qof:AT:=mkt 0x2fa796263a7ee5e2a3a41c9d
def Qoe:AT:=mkt 0x5b0701387ca83a41b8c75a03bb272abc98548c2ecd
def Qod:AT:=mkt 0x2f2b00f0
def Qoc:AT:=mkt 0xe99724127316253d64416bd
def Qr9:AT:=mkt 0x82c060b9d80ec3134933181653cc43b6d49f70b22b2629ff6d0b3dbdb3b963bf735f12c92149136fe12335c88244e86eefd575c8202a3cc694cd87c92c2f363fe728f7e1800a153ad2bdfd720cd01d05
def QBC:AT:=mkt 0xc2550170
def Qob:AT:=mkt 0x35741809506f411abb881d2d
def Qoa:AT:=mkt 0x4465580c030f9690acc818434c33cb37c034f1c73212e86f9f44c7dca6af98475d
def Qn9:AT:=mkt 0x2a526ea792d86bbe7c43e3ae23d92552a9214bf00ffd9af3b9bbc8c3bad
def Qn8:AT:=mkt 0x4222e6883b244c0e84e77a1724e386090a8a8d29e7f12ac1e64ea9840cb35849a68f6
def Qn7:AT:=mkt 0x245eab64cffc4a721b4456d92146
def Qn6:AT:=mkt 0x2f2b00f0
def Qn5:AT:=mkt 0x4222e6ec4fb2ed18abfb8d38d61f8c9267b49ed3c8be963961a365840cb35849a695e
def Qn4:AT:=mkt 0x10540a6bc93e26faece8174d
def QBB:AT:=mkt 0x1691cc8d2be752ac76472e056bd4ed76588a148fd5431b4456d945ae
def XH:AF:=⟨219,[.tmp 6],
 (zg zqj_0 []
 (.seq (zg zqj_1 [24,25,26,27,28,29,30,31]
 (zw 32
 (zg zqj_2 [33]
 .ret)
 .skip))
 (.seq (zg zqj_3 []
 (.block 0 (.loop (.seq (zg Qu8 [34,35,36]
 (zw 37
 .skip
 (.exit 0)))
 (.seq (.block 1 (zg Qu7 [40,41,42,43,44,45,46,47,48,49,50,51,52,53,54,55,56,57,58,59,60]
 (zw 61
 (zg Qu6 [62]
 .ret)
 .skip)))
 (.reg Qu5 [38,39]))))))
 (zg zqj_8 [64,65,63,66,67,9]
 (zg zqj_9 [68,69]
 (zg QBH []
 (.seq (zg QBG []
 (.block 2 (.loop (.seq (zg Qor [70,71,72]
 (zw 73
 .skip
 (.exit 2)))
 (.seq (.block 3 (zg Qoq [77,78,79,76,80,81]
 (.seq (zg Qop [82]
 (zw 83
 (zg Qoo []
 .ret)
 .skip))
 (zg Qon [85,86,87,84,88,89,16]
 (zg Qom [90,91,92,93,94,95,96,97,98,99,100,101,102,103,104,105,106,107,108,109,110,111]
 (zw 112
 (.reg Qol [113,114,115])
 .skip))))))
 (.reg Qok [74,75]))))))
 (zg QBF [116,117]
 (.seq (zg QBE []
 (.block 4 (.loop (.seq (zg Qoj [118,119,120]
 (zw 121
 .skip
 (.exit 4)))
 (.seq (.block 5 (zg Qoi [124,125,126,127,128,129,130,131,132,133,134,135,136,137,138,139,140,141,142,143,144,145]
 (zw 146
 (zg Qoh []
 .ret)
 .skip)))
 (.reg Qog [122,123]))))))
 (.seq (zg QBD []
 (.block 6 (.loop (.seq (zg Qof [147,148,149]
 (zw 150
 .skip
 (.exit 6)))
 (.seq (.block 7 (zg Qoe [153,154,155,156,157,158]
 (zw 159
 (zg Qod []
 .ret)
 .skip)))
 (.reg Qoc [151,152]))))))
 (zg Qr9 [160,161,162,163,164]
 (.seq (zg QBC []
 (.block 8 (.loop (.seq (zg Qob [165,166,167]
 (zw 168
 .skip
 (.exit 8)))
 (.seq (.block 9 (zg Qoa [171,172,173,174,175,176,177,178,179,180]
 (.seq (zg Qn9 [181,182,183,184,185,186,187,188]
 (zw 189
 (.exit 9)
 .skip))
 (zg Qn8 [190,191,192,193,194,195,196,197,198,199]
 (.seq (zg Qn7 [200,201]
 (zw 202
 (zg Qn6 []
 .ret)
 .skip))
 (.reg Qn5 [203,204,205,206,207,208,209,210,211,212]))))))
 (.reg Qn4 [169,170]))))))
 (zg QBB [213,214,215,216,217,218]
 .ret)))))))))))))⟩
abbrev Z4:Nat:=22
def QJu:AT:=mkt 0x2f2b00e0
def QJt:AT:=mke 0x5fb486da9f53cbbf820145ce8ca20a72a5e4284f14f580ca9 (mke 0x3c8bce4b7ad8aea45fbee0ebedfbb3edf7565a7369dfacf9 (mkt 0x2a815a987f8d2ba377330ed3080e17d362327e8ce7e560691ab6465ad985323526781a10f84de7169af85c592d3ec6784a9e1835cd8017b249))
def QJs:AT:=mkt 0x2f2b00e0
def QJr:AT:=mkt 0x6cf7ba1813d3d242a5295fc0b4d6b79b0fdf6fbd79c49bbafb8469440c781b9590c7236a200193a
def QJq:AT:=mkt 0x47b200e0
def Xh:AF:=⟨50,[.tmp 4],
 (zg QJu []
 (.seq (zg QJt [5,6,7,8,9,10,11,12,13,14,15,16,17,18,19,20,21,22,23,24,25,26,27,28,29,30,31,32,33,34,35,36,37]
 (zw 38
 (zg QJs []
 .ret)
 .skip))
 (zg QJr [39,40,41,42,43,44,45,46,47,48,49]
 (zg QJq []
 .ret))))⟩
abbrev Zh:Nat:=23
def QJp:AT:=mkt 0x603900d0
def QJo:AT:=mkt 0x61fcb7d2801b0
def QJn:AT:=mkt 0x603900d0
def QJm:AT:=mkt 0x603900d8
def QJl:AT:=mkt 0x27525b593a1452a8e0b38ca9c04c0
def QJk:AT:=mkt 0x3c6fc130
def QJj:AT:=mkt 0x53c9d1097d268172d0728195ad10eeff9a27aa7750ea384f8
def QJi:AT:=mkt 0x17b854d26d885e97a42d0
def QJh:AT:=mkt 0x1cefed33ab9721183e38d60ae2aab470e7ebccfcb092c4178829
def QJg:AT:=mkt 0x4230b06972d86cc351
def Qu4:AT:=mkt 0x579b140788359
def XT:AF:=⟨28,[.tmp 2],
 (zg QJp []
 (.seq (zg QJo [6]
 (zw 7
 (zg QJn []
 .ret)
 .skip))
 (zg QJm []
 (.seq (zg QJl [8,9,10]
 (.block 0 (.loop (zg QJk []
 (.seq (zw 14
 .skip
 (.exit 0))
 (.seq (.block 1 (zg QJj [15,16,17]
 (zg QJi [18,19]
 (zw 20
 (.reg QJh [21,22,23,24,25])
 .skip))))
 (.reg QJg [26])))))))
 (zg Qu4 [27]
 .ret)))))⟩
abbrev Yj:Nat:=24
def zqm_0:AT:=mkt 0x2f2b00f0
def zqm_1:AT:=mkt 0x36c9df8c60e794ced6ff00c33589355a401bb1b20fb56671c52229280be1
def zqm_2:AT:=mkt 0x623179744840a369
def zqm_3:AT:=mkt 0xc25500f8
def Qy6:AT:=mkt 0x18e70b3cf5934fa68185f1
def Qy5:AT:=mke 0x9de96a81c3d8fba80ded942f40ea190f78e415a6ed4e1bd1c01522 (mkt 0x3b93faa7399b6bd506f8b080948e9c37f24ba7447baacf507785ca6157b81abe3dbb874c1fc956a54f1972)
def Qy4:AT:=mkt 0x315f935f87b6105d2
def Qy3:AT:=mkt 0x1c038e0dea3903d9584d1
def zqm_8:AT:=mkt 0x1c8efff2694f1eb000a715f4eb6f9a40a506f856100fe2
def zqm_9:AT:=mkt 0xa37c47613016724f48c80b03
def QBA:AT:=mkt 0xbe8b839d7fbd1881b
def QBz:AT:=mkt 0x90af85412ebcb5acac80b23
def QBy:AT:=mkt 0x56d4f837c7729daf9b74fe38e40e1dbc0c1133
def QBx:AT:=mkt 0x6343e8e89fd33b57c5c4e4d444ee83b526091c9f727b8e671e871dc1d5b
def QBw:AT:=mkt 0x74228d6f7236f37c2278cfd3af1ec2540e8b
def QBv:AT:=mkt 0x807f47ad8fd36110a851f757884d590486fe8872a5d5fff4542d467d38836ece69179b
def QBu:AT:=mkt 0xda2102e31068a4829b44579a60b7bb5d5b0b4e904642a612826cc
def QBt:AT:=mkt 0x2f2b00f0
def QBs:AT:=mkt 0x2239ba4169e5839152183d2cde20cea701314
def QBr:AT:=mkt 0xc2550148
def QBq:AT:=mkt 0x4b780724
def QBp:AT:=mkt 0x1868d0148
def QBo:AT:=mke 0x27255059f737891388be7da2b3f55bf04b8a85c49468ce5e74bed6ed23f2d (mke 0x1e88ca829368ef80cb063661baf5074ac8f772366983958f9211b8ff46d3f7d (mkt 0x71cd6f4d044e30ba7b6a335b542e0c016c1eea11e2a27af61e68966a5f978b0e8a4da1757324160f4bcd))
def QBn:AT:=mkt 0x2f2b00f0
def QBm:AT:=mkt 0x837c858a79b5c396dcb98136055f0220ab11f81c2d
def QBl:AT:=mkt 0x1c6bd3ff241348b012e1fdba4b5623400e615ef33c22f6b0ea1015a83455
def QBk:AT:=mkt 0xd5ed1f18525c8e191ddf4e3e416201c4304287d
def XI:AF:=⟨148,[.tmp 6],
 (zg zqm_0 []
 (.seq (zg zqm_1 [20,21,22,23,24,25,26,27]
 (zw 28
 (zg zqm_2 [29]
 .ret)
 .skip))
 (.seq (zg zqm_3 []
 (.block 0 (.loop (.seq (zg Qy6 [30,31,32]
 (zw 33
 .skip
 (.exit 0)))
 (.seq (.block 1 (zg Qy5 [36,37,38,39,40,41,42,43,44,45,46,47,48,49,50,51,52,53,54,55,56]
 (zw 57
 (zg Qy4 [58]
 .ret)
 .skip)))
 (.reg Qy3 [34,35]))))))
 (zg zqm_8 [60,61,59,62,63,9]
 (.seq (zg zqm_9 [64,65]
 (zw 66
 (zg QBA [67]
 .ret)
 .skip))
 (zg QBz [68,69]
 (zg QBy [70,71,72,73]
 (zg QBx [75,76,77,78,74,79,80]
 (zg QBw [81,82]
 (zg QBv [83,84,85,86,87,88]
 (.seq (zg QBu [89,90,91,92,93,94,95,96]
 (zw 97
 (zg QBt []
 .ret)
 .skip))
 (zg QBs [98,99]
 (zg QBr []
 (.seq (zg QBq []
 (zw 100
 (.reg QBp [])
 .skip))
 (.seq (zg QBo [101,102,103,104,105,106,107,108,109,110,111,112,113,114,115,116,117,118,119,120,121,122,123,124,125,126,127,128,129,130,131]
 (zw 132
 (zg QBn []
 .ret)
 .skip))
 (zg QBm [133,134,135,136]
 (zg QBl [138,139,140,137,141,142,18]
 (zg QBk [143,144,145,146,147]
 .ret))))))))))))))))))⟩
abbrev Z5:Nat:=25
def zqn_0:AT:=mkt 0xa9ce00c0
def zqn_1:AT:=mkt 0x2603d4c8b4a93dcfb370f79bf32e2839b308
def QhL:AF:=⟨4,[.tmp 0],
 (zg zqn_0 []
 (zg zqn_1 [1,2,3]
 .ret))⟩
abbrev Qmo:Nat:=26
def QJf:AT:=mkt 0x5ba9a3ee9b198
def QJe:AT:=mkt 0x7c31f5db17170a72dc5fa00d2e3e82b54888676dd280660
def QJd:AT:=mkt 0x127be400e0
def QJc:AT:=mkt 0x4da37b248965894a83b462b3cf4ec66d8a27ab7502e5717ec9801ac97a40e69
def QJb:AT:=mkt 0x96f0229
def QJa:AT:=mkt 0x6157c6f558371
def QI9:AT:=mkt 0x2cf8ea2c4f83d623cc69efa0e40879
def QI8:AT:=mkt 0xaf4dc023f413101cd48f00ec569faee51e95394761
def QI7:AT:=mkt 0xd3e0ef2d8647343953f50ec2093a
def QI6:AT:=mkt 0xa12a035a
def Qu3:AT:=mkt 0x4decad965d4d4b5400762
def Qu2:AT:=mke 0x28673be5c21ae055ffb7564a17a4a0e99f2f41536201572 (mkt 0x12c81fdf7cdffae9a260bdd7b642c826e7a509a1d6c7402015c2)
def Qu1:AT:=mkt 0x13f4d7cbe0ec962f0803
def Qu0:AT:=mkt 0x2297bca0235011372f6f6036ac34e31eb62b9fd3914c5bd2598d5550a7866d6fb676947523e7c3a6803b936199f79b26ff32d07de74be4503d85d08c320e2cc2b44a8c7707bd2752ae69cf954cca2758204cbabda7b4cd0dc14a3a35e5f7a3a64374ed7d74d57140a3d702dddd72c6830ee67e235d163a8fcd79de88a815766059a02f8cf3b212e0665ea6bb2f59153c841c84c93dc4ff754611a82980a5fe9814683cc8c8e8300260b
def QuZ:AT:=mkt 0x1c83fb1d8026688d50180dd7ded91ca7a5f4835f0bbc2f5bbb99fe4e29db995a32d4942c81bf7c02412c5ccf868926948ce66c71fd9cd68bae69e83201fde0a63f3ba6c3b99189ddcc6c1f7168b9a57a6cdf80c44e08adf80480baccb9bdfcc52525929eae6a75b1e15325ce8e29efb096ad59214fad971a9c43fd7be9459f7e0e6c26eb6516a8210749d2a24fa28ba425f0d730b89dcfcc226c40003e9c
def QuY:AT:=mkt 0x2a2dd9b18480b4c
def Zp:AF:=⟨106,[.tmp 4],
 (zg QJf []
 (.seq (zg QJe [12,13,14,15,16,17,18]
 (zw 19
 (zg QJd []
 .ret)
 .skip))
 (.seq (zg QJc [21,22,23,24,25,26,20,27,28]
 (zg QJb []
 (zw 29
 (zg QJa [30]
 .ret)
 .skip)))
 (zg QI9 [31,32,33,34,35]
 (zg QI8 [36,37,38]
 (.seq (zg QI7 [39]
 (.block 0 (.loop (zg QI6 []
 (.seq (zw 43
 .skip
 (.exit 0))
 (.seq (.block 1 (zg Qu3 [44,45]
 (.reg Qu2 [46,47,48,49,50,51,52,53,54,55,56,57,58,59,60,61,62,63])))
 (.reg Qu1 [64])))))))
 (zg Qu0 [65,66,67,68,69,70,71,72,73,74,75,76,77,78,79,80,81,82]
 (zg QuZ [83,84,85,86,87,88,89,90,91,92,93,94,95,96,97,98,99,100,101,102,103,104]
 (zg QuY [105]
 .ret)))))))))⟩
abbrev Qbt:Nat:=27
def zqp_0:AT:=mkt 0x5eea8bc27bab7b224f0adfdfa29874b51c04a0
def zqp_1:AT:=mkt 0x25003547ad121d1a1c0350
def zqp_2:AT:=mkt 0x7b518ac8735a48c8c3d60a796a72f622659f67d24133ba44c530787c22cb5ec008a8
def Za:AF:=⟨23,[],
 (.seq (zg zqp_0 [4,5,6,7,8]
 (zw 9
 (zg zqp_1 [10,11,12]
 .ret)
 .skip))
 (.reg zqp_2 [13,14,15,16,17,18,19,20,21,22]))⟩
abbrev Qat:Nat:=28
def zqq_0:AT:=mkt 0x2f2b00e0
def zqq_1:AT:=mke 0x1901c0897bcea951d823684ab259e154d27ddf33a03ea46007a8 (mkt 0x73ed62f12e3a0d322afd5479c4302fa4e4f8)
def QaG:AF:=⟨20,[.tmp 4],
 (zg zqq_0 []
 (zg zqq_1 [5,6,7,8,9,10,11,12,13,14,15,16,17,18,19]
 .ret))⟩
abbrev Qe6:Nat:=29
def QI5:AT:=mkt 0x2f2b00e0
def QI4:AT:=mkt 0x333dbafc8be99ab91d3dfab472dde68b45d280680
def QI3:AT:=mkt 0x2f2b00e0
def QI2:AT:=mkt 0xbcd815886a303df729ad7b55300bf388c0f8ccba2d5ab9efa0e40ac1
def QI1:AT:=mkt 0x3d4a3efde67f550a9feaf11dc85f9
def QI0:AT:=mkt 0x2f2b00e0
def QIZ:AT:=mkt 0x663aaa2c3e1b484d9
def QuV:AT:=mkt 0x64ba4271
def QuU:AT:=mkt 0x4543bd9b457c1d740073a
def QuT:AT:=mke 0x265a0e8105ec574346200b52 (.rd (some 47) none (.look true false [.i] (.agg [(.int .i64 0),(.int .i64 0),(.int .i64 0),(.int .i64 0),(.int .i64 0),(.int .i64 0),(.int .i64 0),(.int .i64 0),(.int .i64 0),(.int .i64 0),(.int .i64 0),(.int .i64 0),(.int .i64 0),(.int .i64 0),(.int .i64 0),(.int .i64 0),(.int .i64 0),(.int .i64 0),(.int .i64 0),(.int .i64 0),(.int .i64 0),(.int .i64 0),(.int .i64 0),(.int .i64 0),(.int .i64 0),(.int .i64 0),(.int .i64 0),(.int .i64 0),(.int .i64 0),(.int .i64 0),(.int .i64 0),(.int .i64 0),(.int .i64 0),(.int .i64 0),(.int .i64 0),(.int .i64 0),(.int .i64 0),(.int .i64 0),(.int .i64 0),(.int .i64 0),(.int .i64 0),(.int .i64 0),(.int .i64 0),(.int .i64 0),(.int .i64 0),(.int .i64 0),(.int .i64 0),(.int .i64 0),(.int .i64 0),(.int .i64 0),(.int .i64 0),(.int .i64 0),(.int .i64 0),(.int .i64 0),(.int .i64 0),(.int .i64 0),(.int .i64 0),(.int .i64 0),(.int .i64 0),(.int .i64 0),(.int .i64 0),(.int .i64 0),(.int .i64 0),(.int .i64 0)]) (.t 45) (.t 46))
 (.rd (some 41) none (.mov (.t 47))
 (.rd (some 48) none (.extr (.t 41) 0)
 (.rd (some 49) none (.extr (.t 41) 1)
 (.wr false (some 8) none (.new 85 (List.replicate 64 [(.int .i64 0)]).flatten)
 (.wr false none none (.store 64 (.t 8) (.t 48))
 (.rd (some 9) none (.mov (.t 49))
 .done)))))))
def Qn3:AT:=mkt 0x16a40392
def Qn2:AT:=mkt 0x2a803ce826ab7cabac484ad50f2eb337490751209985ab9bcf86b0de108ec15b3dfb4238647e15532e2019a2
def Qn1:AT:=(.wr false (some 12) none (.new 85 (List.replicate 64 [(.int .i64 0)]).flatten)
 .done)
def Qn0:AT:=mkt 0x4f2b7284605e2
def QnZ:AT:=mkt 0x52538b72a630a13bf0813
def QnY:AT:=mkt 0x25958704f30dc3da55449f6b9b802f0e1b
def QnX:AT:=mkt 0x58902eaabe3bb97bf083b
def QnW:AT:=mkt 0x2f2b0128
def QnV:AT:=mke 0x2ec4e8a00464086500fed7effe5ab69cd109b9ab01d4b (.rd (some 82) none (.look false false [.i] (.agg [(.int .i64 0),(.int .i64 0),(.int .i64 0),(.int .i64 0),(.int .i64 0),(.int .i64 0),(.int .i64 0),(.int .i64 0),(.int .i64 0),(.int .i64 0),(.int .i64 0),(.int .i64 0),(.int .i64 0),(.int .i64 0),(.int .i64 0),(.int .i64 0),(.int .i64 0),(.int .i64 0),(.int .i64 0),(.int .i64 0),(.int .i64 0),(.int .i64 0),(.int .i64 0),(.int .i64 0),(.int .i64 0),(.int .i64 0),(.int .i64 0),(.int .i64 0),(.int .i64 0),(.int .i64 0),(.int .i64 0),(.int .i64 0),(.int .i64 0),(.int .i64 0),(.int .i64 0),(.int .i64 0),(.int .i64 0),(.int .i64 0),(.int .i64 0),(.int .i64 0),(.int .i64 0),(.int .i64 0),(.int .i64 0),(.int .i64 0),(.int .i64 0),(.int .i64 0),(.int .i64 0),(.int .i64 0),(.int .i64 0),(.int .i64 0),(.int .i64 0),(.int .i64 0),(.int .i64 0),(.int .i64 0),(.int .i64 0),(.int .i64 0),(.int .i64 0),(.int .i64 0),(.int .i64 0),(.int .i64 0),(.int .i64 0),(.int .i64 0),(.int .i64 0),(.int .i64 0)]) (.t 79) (.t 81))
 (.rd (some 83) none (.mov (.t 0))
 (.rd (some 84) none (.nilc (.t 83))
 (.rd (some 85) none (.faddr 4 (.t 84))
 (.rd (some 86) none (.load false 1 (.t 85))
 (.rd (some 87) none (.faddr 5 (.t 10))
 (.rd (some 88) none (.load false 1 (.t 87))
 (.rd (some 89) none (.look false false [.i] (.agg [(.int .i64 0),(.int .i64 0),(.int .i64 0),(.int .i64 0),(.int .i64 0),(.int .i64 0),(.int .i64 0),(.int .i64 0),(.int .i64 0),(.int .i64 0),(.int .i64 0),(.int .i64 0),(.int .i64 0),(.int .i64 0),(.int .i64 0),(.int .i64 0),(.int .i64 0),(.int .i64 0),(.int .i64 0),(.int .i64 0),(.int .i64 0),(.int .i64 0),(.int .i64 0),(.int .i64 0),(.int .i64 0),(.int .i64 0),(.int .i64 0),(.int .i64 0),(.int .i64 0),(.int .i64 0),(.int .i64 0),(.int .i64 0),(.int .i64 0),(.int .i64 0),(.int .i64 0),(.int .i64 0),(.int .i64 0),(.int .i64 0),(.int .i64 0),(.int .i64 0),(.int .i64 0),(.int .i64 0),(.int .i64 0),(.int .i64 0),(.int .i64 0),(.int .i64 0),(.int .i64 0),(.int .i64 0),(.int .i64 0),(.int .i64 0),(.int .i64 0),(.int .i64 0),(.int .i64 0),(.int .i64 0),(.int .i64 0),(.int .i64 0),(.int .i64 0),(.int .i64 0),(.int .i64 0),(.int .i64 0),(.int .i64 0),(.int .i64 0),(.int .i64 0),(.int .i64 0)]) (.t 86) (.t 88))
 (.cl false (some 90) none (.c (.fn (.func 56) [] [])) [(.t 73),(.t 75),(.t 82),(.t 89)]
 (.rd (some 72) none (.mov (.t 90))
 (.rd (some 91) none (.extr (.t 72) 0)
 (.rd (some 92) none (.extr (.t 72) 1)
 (.wr false none none (.store 64 (.t 12) (.t 91))
 (.rd (some 13) none (.mov (.t 92))
 .done))))))))))))))
def QnU:AT:=mkt 0x109713de08eb
def QnT:AT:=mkt 0x1ad02ecb18ed842b921552dc77058012fc
def QnS:AT:=mkt 0x4e55336850c22dfe234f084eb2a200df3
def QnR:AT:=mkt 0x6b938a02f95bda25d0802a683904ffa674714401f14
def QnQ:AT:=mkt 0x21e603465d4fe1b0508c0f44
def QnP:AT:=mkt 0xe7e1f4fe9429d72ed985e24c84875fd86913c780175c
def QnO:AT:=mkt 0x6d3e22239acc4e9c0b84
def QuX:AT:=mke 0x159555272eab274714401794 (.rd (some 119) none (.look true false [.i] (.agg [(.int .i64 0),(.int .i64 0),(.int .i64 0),(.int .i64 0),(.int .i64 0),(.int .i64 0),(.int .i64 0),(.int .i64 0),(.int .i64 0),(.int .i64 0),(.int .i64 0),(.int .i64 0),(.int .i64 0),(.int .i64 0),(.int .i64 0),(.int .i64 0),(.int .i64 0),(.int .i64 0),(.int .i64 0),(.int .i64 0),(.int .i64 0),(.int .i64 0),(.int .i64 0),(.int .i64 0),(.int .i64 0),(.int .i64 0),(.int .i64 0),(.int .i64 0),(.int .i64 0),(.int .i64 0),(.int .i64 0),(.int .i64 0),(.int .i64 0),(.int .i64 0),(.int .i64 0),(.int .i64 0),(.int .i64 0),(.int .i64 0),(.int .i64 0),(.int .i64 0),(.int .i64 0),(.int .i64 0),(.int .i64 0),(.int .i64 0),(.int .i64 0),(.int .i64 0),(.int .i64 0),(.int .i64 0),(.int .i64 0),(.int .i64 0),(.int .i64 0),(.int .i64 0),(.int .i64 0),(.int .i64 0),(.int .i64 0),(.int .i64 0),(.int .i64 0),(.int .i64 0),(.int .i64 0),(.int .i64 0),(.int .i64 0),(.int .i64 0),(.int .i64 0),(.int .i64 0)]) (.t 117) (.t 118))
 (.rd (some 113) none (.mov (.t 119))
 (.rd (some 120) none (.extr (.t 113) 0)
 (.rd (some 121) none (.extr (.t 113) 1)
 (.wr false (some 14) none (.new 85 (List.replicate 64 [(.int .i64 0)]).flatten)
 (.wr false none none (.store 64 (.t 14) (.t 120))
 (.rd (some 15) none (.mov (.t 121))
 .done)))))))
def QuW:AT:=mkt 0xe4ea74a1f38823efb31596bb36150b4cacfc7ecdfd33b439d5
def XB:AF:=⟨130,[.tmp 4],
 (zg QI5 []
 (.seq (zg QI4 [16,17,18,19,20,21,22]
 (zw 23
 (zg QI3 []
 .ret)
 .skip))
 (zg QI2 [24,25,26,27,28,29,30]
 (.seq (zg QI1 [31,32,33]
 (zw 34
 (zg QI0 []
 .ret)
 .skip))
 (.seq (zg QIZ []
 (.block 0 (.loop (zg QuV []
 (.seq (zw 38
 .skip
 (.exit 0))
 (.seq (.block 1 (zg QuU [39,40]
 (.seq (zg QuT [42,43,44,45,46,47,41,48,49,8]
 (zg Qn3 []
 (zw 50
 (.exit 1)
 .skip)))
 (zg Qn2 [52,53,54,55,56,57,51,58,59,11]
 (zg Qn1 []
 (.seq (zg Qn0 [60]
 (.block 2 (zg QnZ [66]
 (zw 65
 (.reg QnY [67,68,69])
 (zg QnX [71]
 (zw 70
 (zg QnW []
 (zg QnV [73,74,75,76,77,78,79,80,81,82,83,84,85,86,87,88,89,90,72,91,92]
 (zg QnU [93]
 (zw 94
 (.reg QnT [95,96,97])
 .skip))))
 (.reg QnS [62,63,64])))))))
 (zg QnR [98,99,100,101,102,103]
 (zg QnQ [104,105]
 (zw 106
 (.reg QnP [107,108,109,110,111])
 .skip)))))))))
 (.reg QnO [112])))))))
 (zg QuX [114,115,116,117,118,119,113,120,121,14]
 (zg QuW [122,123,124,125,126,127,128,129]
 .ret)))))))⟩
abbrev ZM:Nat:=30
def Qy2:AT:=mkt 0x603900d0
def Qy1:AT:=mke 0xd8 (.rd (some 4) none (.eqn false (.t 3))
 .done)
def Qy0:AT:=mkt 0x603900d0
def QyZ:AT:=mkt 0x1205a677524e2f81b0e0034f2aaba23b328
def QT:AF:=⟨8,[.tmp 2],
 (zg Qy2 []
 (.seq (zg Qy1 [3]
 (zw 4
 (zg Qy0 []
 .ret)
 .skip))
 (zg QyZ [5,6,7]
 .ret)))⟩
abbrev XX:Nat:=31
def zqt_0:AT:=mkt 0x722b1779dba22abf02688988b260
def zqt_1:AT:=mkt 0x127be400f8
def zqt_2:AT:=mkt 0xc2550108
def zqt_3:AT:=mkt 0x76fd4a76904110
def zqt_4:AT:=mkt 0x7f5808e481d8
def zqt_5:AT:=mkt 0x6ae33982a6b7de16836b1cc4b3bfd70ab31f7855c43c7f4836df226e645f56763cbdd58ec3e1212880960
def zqt_6:AT:=mkt 0x8141dbf9478ef4238
def zqt_7:AT:=mkt 0x4de1170f28341
def Yl:AF:=⟨25,[.tmp 6],
 (zg zqt_0 []
 (zg zqt_1 []
 (.seq (zg zqt_2 []
 (.block 0 (.loop (zg zqt_3 []
 (.seq (zw 10
 .skip
 (.exit 0))
 (.seq (.block 1 (zg zqt_4 [11]
 (.reg zqt_5 [12,13,14,15,16,17,18,19,20,21,22])))
 (.reg zqt_6 [23])))))))
 (zg zqt_7 [24]
 .ret))))⟩
abbrev YG:Nat:=32
def zqu_0:AT:=(.wr false (some 2) none (.new 85 (List.replicate 64 [(.int .i64 0)]).flatten)
 .done)
def zqu_1:AT:=mkt 0xc25500e0
def zqu_2:AT:=mkt 0x76fd4a769040e8
def zqu_3:AT:=mkt 0x4572381901b0
def zqu_4:AT:=mkt 0x186fb4344c7bb02d4345875c8278
def zqu_5:AT:=mkt 0x1c089f84498e2c40a673d194680408
def zqu_6:AT:=mkt 0x20515c6e4bdc02d4345875c82b0
def zqu_7:AT:=mkt 0x59e81a6d7a460c200
def zqu_8:AT:=mkt 0x2e482ca5901ed9ea22ac208
def Qbn:AF:=⟨18,[.cell 2 true 64],
 (zg zqu_0 []
 (.seq (zg zqu_1 []
 (.block 0 (.loop (zg zqu_2 []
 (.seq (zw 5
 .skip
 (.exit 0))
 (.seq (.block 1 (zg zqu_3 [6]
 (zg zqu_4 [7,8]
 (zg zqu_5 [9,10,11,12]
 (zw 13
 (.reg zqu_6 [14,15])
 .skip)))))
 (.reg zqu_7 [16])))))))
 (zg zqu_8 [17]
 .ret)))⟩
abbrev QgL:Nat:=33
def zqv_0:AT:=mkt 0x2f2b00d8
def zqv_1:AT:=mkt 0x3b90856b0401a0
def zqv_2:AT:=mkt 0xfafcf87805185e0a351ef284b529b504a03bda84630
def zqv_3:AT:=mkt 0x18f84c8c540b936f3990ca045005c3da844e8
def XZ:AF:=⟨18,[.tmp 3],
 (zg zqv_0 []
 (.seq (zg zqv_1 [4]
 (zw 5
 (zg zqv_2 [6,7,8,9,10,11,12]
 .ret)
 .skip))
 (zg zqv_3 [13,14,15,16,17]
 .ret)))⟩
abbrev XK:Nat:=34
def zqw_0:AT:=mkt 0x603900d0
def zqw_1:AT:=mkt 0xc25500d8
def zqw_2:AT:=mkt 0x176b4c6f133a80288
def zqw_3:AT:=mkt 0x3c6fc120
def zqw_4:AT:=mkt 0x157e5545a257e43802a8
def zqw_5:AT:=mkt 0x7aa4b0485240c47123cf6c8438
def zqw_6:AT:=mkt 0x3b90856dd88218
def zqw_7:AT:=(.bad false (some 21) none
 (.bad false none none
 .done))
def zqw_8:AT:=mkt 0x7ba64983441284230
def zqw_9:AT:=mkt 0xe71c38ce34613811b7c17c98479
def QBj:AT:=mkt 0x663aaa2c3d9d80489
def QBi:AT:=mkt 0x64ba4221
def QBh:AT:=mkt 0xcea18412cf2d8f0804a9
def QBg:AT:=mkt 0xfa2522fcdde13ebca9a7f05f9
def QBf:AT:=mkt 0x5691f9e9106305c391
def QBe:AT:=mkt 0x718fddf300399
def X5:AF:=⟨36,[.tmp 2],
 (zg zqw_0 []
 (zg zqw_1 []
 (.seq (zg zqw_2 []
 (.block 0 (.loop (zg zqw_3 []
 (.seq (zw 12
 .skip
 (.exit 0))
 (.seq (.block 1 (zg zqw_4 [13,14]
 (zg zqw_5 [15,16,17,18]
 (zg zqw_6 [19]
 (zw 20
 (.reg zqw_7 [21])
 .skip)))))
 (.reg zqw_8 [22])))))))
 (zg zqw_9 [23,24]
 (.seq (zg QBj []
 (.block 2 (.loop (zg QBi []
 (.seq (zw 28
 .skip
 (.exit 2))
 (.seq (.block 3 (zg QBh [29,30]
 (.reg QBg [31,32,33])))
 (.reg QBf [34])))))))
 (zg QBe [35]
 .ret))))))⟩
abbrev QaK:Nat:=35
def QIY:AT:=mkt 0x163f8e893b188
def QIX:AT:=mkt 0x2378b1cfe83703937728bfd345719f1c738bbadeeb69eb1ab0f321937115e40845b6a9d6559c0c93d1f738130f7934c314fa4ab8
def QIW:AT:=mkt 0x2f2b00d0
def QIV:AT:=mkt 0x242a20d3468dff60a1de45a9
def QIU:AT:=mkt 0x64ba4209
def QIT:AT:=mkt 0xb9f4b3a198067bc80491
def QIS:AT:=mkt 0x663aaa2c3e02204a1
def QIR:AT:=mkt 0x64ba4239
def QIQ:AT:=mkt 0xe34894cc9164a24804c1
def QIP:AT:=mke 0x6a854e2ecfe126e4781dd181cb40989e5bca9a7693e0baecc9765781512 (mkt 0x3034e065587bdec29ae4aa9dfa54f0b62)
def QuS:AT:=mkt 0x2f2b00d0
def QuR:AT:=mkt 0x314876f44e9913a058a
def QuQ:AT:=mkt 0x32495d8357b4f720592
def QuP:AT:=mkt 0x47b200d0
def ZT:AF:=⟨51,[.tmp 2],
 (zg QIY []
 (.seq (zg QIX [7,8,9,10,11,12,13,14,15,16,17,18,19]
 (zw 20
 (zg QIW []
 .ret)
 .skip))
 (.seq (zg QIV [21]
 (.block 0 (.loop (zg QIU []
 (.seq (zw 25
 .skip
 (.exit 0))
 (.seq (.block 1 (zg QIT [26,27]
 (zg QIS []
 (.block 2 (.loop (zg QIR []
 (.seq (zw 31
 .skip
 (.exit 2))
 (.seq (.block 3 (zg QIQ [32,33]
 (zg QIP [34,35,36,37,38,39,40,41,42,43,44,45,46,47]
 (zw 48
 (zg QuS []
 .ret)
 .skip))))
 (.reg QuR [49])))))))))
 (.reg QuQ [50])))))))
 (zg QuP []
 .ret))))⟩
abbrev QcO:Nat:=36
def zqy_0:AT:=mkt 0x163f8fcedb9c8b198
def zqy_1:AT:=mkt 0xbc8921e4b482f4c834f15664bac9b34c0e7f803e8
def Qal:AF:=⟨9,[.tmp 4],
 (zg zqy_0 []
 (zg zqy_1 [5,6,7,8]
 .ret))⟩
abbrev Qee:Nat:=37
def zqz_0:AT:=mkt 0x2f2b00d8
def zqz_1:AT:=mkt 0x257915e9675e8a594f72d6a5980320
def ZU:AF:=⟨7,[.tmp 3],
 (zg zqz_0 []
 (zg zqz_1 [4,5,6]
 .ret))⟩
abbrev Qdb:Nat:=38
def Qwn:AT:=mkt 0x2f2b00e0
def Qwm:AT:=mkt 0x3a4b881827f8786a4c0e896980328
def YB:AF:=⟨8,[.tmp 4],
 (zg Qwn []
 (zg Qwm [5,6,7]
 .ret))⟩
abbrev Qa8:Nat:=39
def QHz:AT:=mkt 0x2f2b00d8
def QHy:AT:=mkt 0x1652905748ad59647b51b6e5d6557ac28d81545f491b8229b6c92f00920478a5a847a0
def YS:AF:=⟨13,[.tmp 3],
 (zg QHz []
 (zg QHy [4,5,6,7,8,9,10,11,12]
 .ret))⟩
abbrev QbL:Nat:=40
def QHx:AT:=mkt 0xc25500d0
def QHw:AT:=mkt 0x267b767833cc06b9de4003d8
def Qdi:AF:=⟨7,[.tmp 2],
 (zg QHx []
 (zg QHw [3,4,5,6]
 .ret))⟩
abbrev QjJ:Nat:=41
def QHv:AT:=mkt 0xc25500e0
def QHu:AT:=mke 0x5342c5699c01e7a843f8 (.rd (some 12) none (.look false false [.i] (.agg [(.int .i64 0),(.int .i64 0),(.int .i64 0),(.int .i64 0),(.int .i64 0),(.int .i64 0),(.int .i64 0),(.int .i64 0),(.int .i64 0),(.int .i64 0),(.int .i64 0),(.int .i64 0),(.int .i64 0),(.int .i64 0),(.int .i64 0),(.int .i64 0),(.int .i64 0),(.int .i64 0),(.int .i64 0),(.int .i64 0),(.int .i64 0),(.int .i64 0),(.int .i64 0),(.int .i64 0),(.int .i64 0),(.int .i64 0),(.int .i64 0),(.int .i64 0),(.int .i64 0),(.int .i64 0),(.int .i64 0),(.int .i64 0),(.int .i64 0),(.int .i64 0),(.int .i64 0),(.int .i64 0),(.int .i64 0),(.int .i64 0),(.int .i64 0),(.int .i64 0),(.int .i64 0),(.int .i64 0),(.int .i64 0),(.int .i64 0),(.int .i64 0),(.int .i64 0),(.int .i64 0),(.int .i64 0),(.int .i64 0),(.int .i64 0),(.int .i64 0),(.int .i64 0),(.int .i64 0),(.int .i64 0),(.int .i64 0),(.int .i64 0),(.int .i64 0),(.int .i64 0),(.int .i64 0),(.int .i64 0),(.int .i64 0),(.int .i64 0),(.int .i64 0),(.int .i64 0)]) (.t 10) (.t 11))
 (.rd (some 13) none (.mov (.c (.int .i64 0)))
 .done))
def QHt:AT:=mkt 0x76fd4a76904130
def QHs:AT:=mkt 0x8494cfd0090f09df11b13ab9538378
def QHr:AT:=mkt 0x1e56df80cbcdcdec4ac5de8e42d9a4e46bbd2d5170111fd1728c2552dce49
def QHq:AT:=mkt 0xa1a7f927a0cc17280453594af20721
def QHp:AT:=mkt 0x5175efb810586cc381
def QHo:AT:=mkt 0x6b13927830389
def Ym:AF:=⟨34,[.tmp 4],
 (zg QHv []
 (.seq (zg QHu [7,8,9,10,11]
 (.block 0 (.loop (zg QHt []
 (.seq (zw 14
 .skip
 (.exit 0))
 (.seq (.block 1 (zg QHs [15,16]
 (zg QHr [17,18,19,20,21,22,23,24,25,26]
 (zw 27
 (.reg QHq [28,29,30,31])
 .skip))))
 (.reg QHp [32])))))))
 (zg QHo [33]
 .ret)))⟩
abbrev Qq:Nat:=42
def zq14_0:AT:=mkt 0xaeb36a956da80258
def zq14_1:AT:=mkt 0x1ba56bdc846991cb10408cc9d8cd81594cf8c506117004a8
def Yx:AF:=⟨11,[],
 (zg zq14_0 [3,4]
 (.reg zq14_1 [5,6,7,8,9,10]))⟩
abbrev Xw:Nat:=43
def QHn:AT:=mkt 0xddb00b6b0377be2b260
def QHm:AT:=mkt 0x3a3f4b2567a8684629752fb2d8
def QHl:AT:=mkt 0x34e555b90b23010062d8220
def QHk:AT:=mkt 0x1f4d39219269c2381cb01e0ae3006e9
def QsG:AT:=mkt 0x64ba4211
def QsF:AT:=mkt 0xc0de67110aa0d7880499
def QsE:AT:=mkt 0x9c0bfe52043883d5a0a13e253a077659ed0d49e2e09cf42789e9e628f309bac7b9db80c31
def QsD:AT:=mkt 0x73c3851fa3a4005ce96a4482b62f957adc899
def QsC:AT:=mkt 0x283b3338e05afbe0542
def QHj:AT:=mkt 0x5da92bd1f54a9fac40c06e4cdc8094a
def Qwl:AT:=mkt 0x194c9fb5ca9dc80762
def QmR:AT:=mkt 0xa12a037a
def QmQ:AT:=mkt 0x963bc168873de16d44510a5787b80b82
def QmP:AT:=mkt 0x258e71b8286028edacc58705f4088e878abd085b43cb91611a2
def QmO:AT:=mkt 0x772f12805ca
def QmN:AT:=mkt 0xc0d1a7b901b0
def QmM:AT:=mkt 0x305bea10c446ef622d5712f80bda
def QmL:AT:=mkt 0x3f5dd141d6f95fa05fa
def Qwk:AT:=mkt 0x23eca26b3b495bc800b03
def QeH:AF:=⟨65,[.tmp 6,.tmp 7],
 (zg QHn []
 (zg QHm [19]
 (zg QHl [20]
 (.seq (zg QHk [21,22]
 (.block 0 (.loop (zg QsG []
 (.seq (zw 26
 .skip
 (.exit 0))
 (.seq (.block 1 (zg QsF [27,28]
 (zg QsE [30,31,32,29,33,34,13]
 (.reg QsD [35,36,37,38,39]))))
 (.reg QsC [40])))))))
 (zg QHj [41,42,43]
 (.seq (zg Qwl []
 (.block 2 (.loop (zg QmR []
 (.seq (zw 47
 .skip
 (.exit 2))
 (.seq (.block 3 (zg QmQ [48,49,50]
 (zg QmP [52,53,54,51,55,56]
 (.seq (zg QmO [57]
 (zw 58
 (zg QmN []
 .ret)
 .skip))
 (.reg QmM [59,60,61,62])))))
 (.reg QmL [63])))))))
 (zg Qwk [64]
 .ret)))))))⟩
abbrev QdB:Nat:=44
end Go.Proofs.YtoeicjlflmmmcaaGreatDoor
