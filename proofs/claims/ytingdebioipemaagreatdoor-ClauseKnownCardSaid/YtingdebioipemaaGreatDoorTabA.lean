/- The translations of the functions, by a program of mine. -/
import Derived.Test.YtingdebioipemaaGreatDoorAmD
namespace Go.Proofs.YtingdebioipemaaGreatDoor
open Go Go.Am
set_option maxRecDepth 100000
set_option maxHeartbeats 4000000
def ump {α β:Type} (g:α→β) (x:Nat→α×Nat) (N:Nat):β×Nat:=match x N with | (a,M)=>(g a,M)
def ubd {α β:Type} (x:Nat→α×Nat) (f:α→Nat→β×Nat) (N:Nat):β×Nat:=match x N with | (a,M)=>f a M
def udg (r N:Nat):Nat×Nat:=(N%r,N/r)
def unt (N:Nat):Nat×Nat:=if N%64<60 then (N%64,N/64) else (N/64%2^(16*(N%64-59)),N/64/2^(16*(N%64-59)))
def uls {α:Type} (x:Nat→α×Nat):Nat→Nat→List α×Nat
 | 0,N=>([],N)
 | k+1,N=>ubd x (fun a=>ump (a::·) (uls x k)) N
def uli {α:Type} (x:Nat→α×Nat):Nat→List α×Nat:=ubd unt fun k=>uls x k
def uoo {α:Type} (x:Nat→α×Nat) (N:Nat):Option α×Nat:=if N%2=0 then (none,N/2) else ump some x (N/2)
def ubo (N:Nat):Bool×Nat:=(N%2==1,N/2)
def uix {α:Type} [Inhabited α] (l:List α) (N:Nat):α×Nat:=(l.getD (N%l.length) default,N/l.length)
def uik:Nat→IntKind×Nat:=uix [.i64,.u8,.u32,.u64,.i32,.u16,.i16,.i8]
def ukd (N:Nat):Kd×Nat:=(match N%3 with | 0=>.i | 1=>.b | _=>.s,N/3)
def uv0 (N:Nat):V×Nat:=(ubd uik fun k=>ubd ubo fun s=>ump (fun n:Nat=>.int k (if s then -(n:Int) else (n:Int))) unt) N
def uv4 (N:Nat):V×Nat:=ump (fun n=>.fn (.func n) [] []) unt N
def uv5 (N:Nat):V×Nat:=ump (fun l:List Nat=>.str (l.map UInt8.ofNat)) (uli unt) N
def uv6 (N:Nat):V×Nat:=(match N%4 with | 0=>.val (.pointer none) | 1=>.val (.map none) | 2=>.val .nilFunc | _=>.val .nilIface,N/4)
def uv7 (N:Nat):V×Nat:=(.int .i64 ((N%16:Nat):Int),N/16)
def uV (N:Nat):V×Nat:=match N%8 with
 | 7=>uv7 (N/8)
 | 0=>uv0 (N/8)
 | 1=>(.bool false,N/8)
 | 2=>(.bool true,N/8)
 | 3=>(.lst 0 [] true,N/8)
 | 4=>uv4 (N/8)
 | 5=>uv5 (N/8)
 | _=>uv6 (N/8)
def uvs:Nat→List V×Nat:=ump List.flatten (uli (ubd unt fun k=>ump (List.replicate k) uV))
def uA (R N:Nat):Arg×Nat:=if N%(R+2)<R then (.t (N%(R+2)),N/(R+2)) else if N%(R+2)=R then ump .c uV (N/(R+2)) else ump .g unt (N/(R+2))
def uB (R D N:Nat):Arg×Nat:=if N%3<2 then (.t (D-1-N%3),N/3) else uA R (N/3)
def upt (R D:Nat):Nat→(Nat×Nat×Arg)×Nat:=ubd unt fun a=>ubd unt fun b=>ump (a,b,·) (uB R D)
def uO0 (R D m N:Nat):AOp×Nat:=
 if m=0 then ump .mov (uA R) N else
 if m=1 then (ubd (ubo) fun a=>ubd (unt) fun b=>ump (.load a b) (uB R D)) N else
 if m=2 then (ubd (ubo) fun a=>ubd (unt) fun b=>ump (.loadi a b) (uB R D)) N else
 if m=3 then (ubd (uix [.add,.sub,.mul,.quo,.rem,.and,.or,.xor,.shl,.shr,.andNot,.eql,.neq,.lss,.leq,.gtr,.geq]) fun a=>ubd (uB R D) fun b=>ump (.bin a b) (uB R D)) N else
 if m=4 then (ubd (uoo unt) fun a=>ubd (unt) fun b=>ubd (uB R D) fun c=>ump (.iaddr a b c) (uB R D)) N else
 (ubd (unt) fun a=>ump (.faddr a) (uB R D)) N
def uO1 (R D m N:Nat):AOp×Nat:=
 if m=6 then (ubd (uB R D) fun a=>ubd (uB R D) fun b=>ump (.pick a b) (uB R D)) N else
 if m=7 then (ubd (unt) fun a=>ubd (uB R D) fun b=>ump (.store a b) (uB R D)) N else
 if m=8 then (ubd (uvs) fun a=>ump (.build a) (uli (upt R D))) N else
 if m=9 then (ubd (unt) fun a=>ump (.new a) (uvs)) N else
 if m=10 then (ubd (unt) fun a=>ump (.len a) (uB R D)) N else
 (ubd (uB R D) fun a=>ump (.extr a) (unt)) N
def uO2 (R D m N:Nat):AOp×Nat:=
 if m=12 then (ubd (ubo) fun a=>ubd (ubo) fun b=>ubd (unt) fun c=>ubd (unt) fun d=>ubd (uvs) fun e=>ubd (unt) fun f=>ump (.bsl a b c d e f) (uli (upt R D))) N else
 if m=13 then (ubd (uix [.neg,.xor,.not,.plus]) fun a=>ump (.un a) (uB R D)) N else
 if m=14 then (ubd (unt) fun a=>ump (.box a) (uB R D)) N else
 if m=15 then ump .nilc (uB R D) N else
 if m=16 then (ubd (uik) fun a=>ump (.conv a) (uB R D)) N else
 (ubd (ubo) fun a=>ubd (uB R D) fun b=>ump (.eqb a b) (uB R D)) N
def uO3 (R D m N:Nat):AOp×Nat:=
 if m=18 then (ubd (ubo) fun a=>ubd (uB R D) fun b=>ump (.eqp a b) (uB R D)) N else
 if m=19 then (ubd (unt) fun a=>ubd (unt) fun b=>ubd (unt) fun c=>ubd (ubo) fun d=>ubd (uB R D) fun e=>ump (.app a b c d e) (uB R D)) N else
 if m=20 then (ubd (unt) fun a=>ubd (uB R D) fun b=>ubd (uoo (uB R D)) fun c=>ubd (uoo (uB R D)) fun d=>ump (.slc a b c d) (uoo (uB R D))) N else
 if m=21 then (ubd (uB R D) fun a=>ump (.sidx a) (uB R D)) N else
 if m=22 then (ubd (ump Fn.func unt) fun a=>ubd (uli (uB R D)) fun b=>ump (.mkfn a b) (uli (uB R D))) N else
 (ubd (ubo) fun a=>ubd (uli ukd) fun b=>ubd (uB R D) fun c=>ubd (uB R D) fun d=>ump (.mapup a b c d) (uB R D)) N
def uO4 (R D m N:Nat):AOp×Nat:=
 if m=24 then (ubd (ubo) fun a=>ubd (ubo) fun b=>ubd (uli ukd) fun c=>ubd (uV) fun d=>ubd (uB R D) fun e=>ump (.look a b c d e) (uB R D)) N else
 if m=25 then (ubd (ubo) fun a=>ubd (uli ukd) fun b=>ubd (uB R D) fun c=>ump (.eqs a b c) (uB R D)) N else
 if m=26 then (ubd (uB R D) fun a=>ump (.maxi a) (uB R D)) N else
 if m=27 then (ubd (uB R D) fun a=>ump (.mini a) (uB R D)) N else
 if m=28 then (ubd (uB R D) fun a=>ubd (uB R D) fun b=>ump (.max3 a b) (uB R D)) N else
 (ubd (unt) fun a=>ubd (uvs) fun b=>ump (.clr a b) (uB R D)) N
def uO5 (R D m N:Nat):AOp×Nat:=
 if m=30 then (ubd (unt) fun a=>ubd (unt) fun b=>ubd (uB R D) fun c=>ubd (uoo (uB R D)) fun d=>ump (.slarr a b c d) (uoo (uB R D))) N else
 if m=31 then (ubd (unt) fun a=>ubd (unt) fun b=>ubd (unt) fun c=>ubd (uvs) fun d=>ubd (uB R D) fun e=>ump (.mksl a b c d e) (uB R D)) N else
 if m=32 then (.mkmap,N) else
 if m=33 then (ubd (ubo) fun a=>ubd (uli ukd) fun b=>ubd (uV) fun c=>ubd (uB R D) fun d=>ump (.ment a b c d) (uB R D)) N else
 if m=34 then (ubd (uB R D) fun a=>ubd (uB R D) fun b=>ump (.mst a b) (uB R D)) N else
 ump .tostr (uB R D) N
def uO6 (R D m N:Nat):AOp×Nat:=
 if m=36 then ump .same (uB R D) N else
 if m=37 then ump .iter (uB R D) N else
 if m=38 then ump .next (uB R D) N else
 if m=39 then ump .entry (uB R D) N else
 if m=40 then (ubd (ubo) fun a=>ubd (unt) fun b=>ubd (unt) fun c=>ubd (uB R D) fun d=>ump (.aidx a b c d) (uB R D)) N else
 (ubd (uB R D) fun a=>ubd (uoo (uB R D)) fun b=>ump (.ssl a b) (uoo (uB R D))) N
def uO7 (R D m N:Nat):AOp×Nat:=
 if m=42 then (ubd (ubo) fun a=>ubd (unt) fun b=>ubd (unt) fun c=>ump (.field a b c) (uB R D)) N else
 if m=43 then (ubd (unt) fun a=>ubd (ubo) fun b=>ubd (uB R D) fun c=>ump (.copy a b c) (uB R D)) N else
 if m=44 then (ubd (unt) fun a=>ubd (unt) fun b=>ubd (ubo) fun c=>ubd (uB R D) fun d=>ump (.appin a b c d) (uB R D)) N else
 (ubd (unt) fun a=>ump (.tobytes a) (uB R D)) N
def uO (R D N:Nat):AOp×Nat:=
 if N%46<6 then uO0 R D (N%46) (N/46) else
 if N%46<12 then uO1 R D (N%46) (N/46) else
 if N%46<18 then uO2 R D (N%46) (N/46) else
 if N%46<24 then uO3 R D (N%46) (N/46) else
 if N%46<30 then uO4 R D (N%46) (N/46) else
 if N%46<36 then uO5 R D (N%46) (N/46) else
 if N%46<42 then uO6 R D (N%46) (N/46) else
 uO7 R D (N%46) (N/46)
def uds (R k D N:Nat):(Option Nat×Nat)×Nat:=match k with
 | 0=>((some D,D+1),N)
 | 1=>((some (N%R),max D (N%R+1)),N/R)
 | _=>((none,D),N)
def ugd (R k:Nat) (g:Option (Nat×Bool)) (N:Nat):(Option (Nat×Bool)×Option (Nat×Bool))×Nat:=match k with
 | 0=>((none,g),N)
 | 1=>((g,g),N)
 | _=>((some (N%R,N/R%2==1),some (N%R,N/R%2==1)),N/R/2)
def uT (R:Nat):Nat→Nat→Nat→Option (Nat×Bool)→AT→Nat→AT×Nat
 | 0,_,_,_,e,N=>(e,N)
 | f+1,k,D,g,e,N=>
  if k=0 then (e,N)
  else match N%28/9 with
  | 3=>(ubd unt fun a=>ubd (uT R f a D g e) fun T=>ubd unt fun b=>ubd (uT R f b D g T) fun s=>ubd unt fun c=>ump (.alt s) (uT R f c D g T)) (N/28)
  | 0=>(ubd (uds R (N%28%3) D) fun d=>ubd (ugd R (N%28/3%3) g) fun h=>ubd (uO R D) fun o=>ump (.rd d.1 h.1 o) (uT R f (k-1) d.2 h.2 e)) (N/28)
  | 1=>(ubd ubo fun m=>ubd (uds R (N%28%3) D) fun d=>ubd (ugd R (N%28/3%3) g) fun h=>ubd (uO R D) fun o=>ump (.wr m d.1 h.1 o) (uT R f (k-1) d.2 h.2 e)) (N/28)
  | _=>(ubd ubo fun m=>ubd (uds R (N%28%3) D) fun d=>ubd (ugd R (N%28/3%3) g) fun h=>ubd (uB R D) fun x=>ubd (uli (uA R)) fun l=>ump (.cl m d.1 h.1 x l) (uT R f (k-1) d.2 h.2 e)) (N/28)
def uae (N:Nat) (e:AT):AT:=(ubd (uix [24,40,64,96,128,192,288,600]) (fun R=>ubd (udg R) fun D=>ubd unt fun k=>uT R 999 k D none e) N).1
@[go_sem] abbrev mkt (N:Nat) {a b:AT} (_:uae N .done=a:=by cbv) (_:a=b:=by first | (simp only [Int.reduceOfNat,Int.reduceNegSucc,UInt8.reduceOfNat]; exact rfl) | exact rfl):AT:=b
@[go_sem] abbrev mke (N:Nat) (e:AT) {f g:AT→AT} (_:∀ e,uae N e=f e:=by intro e; cbv) (_:∀ e,f e=g e:=by intro e; first | (simp only [Int.reduceOfNat,Int.reduceNegSucc,UInt8.reduceOfNat]; exact rfl) | exact rfl):AT:=g e
abbrev zw (a:Nat) (x y:AC):AC:=.cond (.t a) x y
abbrev zg (a:AT) (l:List Nat) (r:AC):AC:=.seq (.reg a l) r
def zq0_0:AT:=mkt 0x215fececdcb190
def zq0_1:AT:=mkt 0x3cf1ac196f3134fa6bbb05dcf34ca7fcca9407b618e59c2bafa3a2dfbcc678
def zq0_2:AT:=mkt 0x115b38a229686238
def zq0_3:AT:=mkt 0x1f6e9bbe648887c0175a53d903ab643e2ea71b2ce54989
def zq0_4:AT:=mkt 0x564c144b3968bf61a6d6b9e478baae49aaa83f442a7d5cace54af1
def zq0_5:AT:=mkt 0x8c9655d005df13539064d919a909a5366454c0f18131a
def zq0_6:AT:=mkt 0x2f2b00e0
def zq0_7:AT:=mkt 0x4033de965780562
def zq0_8:AT:=mkt 0x1009609401f172ef5d4de1427c1a3f3ce71d6bc264ef8e42bee5dea4117a
def zq0_9:AT:=mkt 0xa819e569fdb451eeac25489b7edd001a16cf93824fc558801e2f85cc7c8139a
def QyF:AT:=mkt 0x2f2b00e0
def QyE:AT:=mkt 0x675ae8dd5e0f98fd7fa67a735366480ca1facad5342bcaa3664a3ac5e19eb
def QyD:AT:=mkt 0x6f6e1c6f3b69c9b3de4cd8e20b459e2abd9f1f6d7d7942a7ce76ca85e1a13
def QyC:AT:=mkt 0x33686288a454bd4005e6506bd0c1aa1774da78b7b4607b3e724c972ead830713d65f6db445882633
def Q1:AF:=⟨81,[.tmp 4],
 (zg zq0_0 []
 (.seq (zg zq0_1 [15,16,17,18,19,20,21]
 (zw 22
 (zg zq0_2 [23]
 .ret)
 .skip))
 (zg zq0_3 [25,26,24,27,28]
 (zg zq0_4 [30,31,32,29,33,34]
 (.seq (zg zq0_5 [35,36,37,38,39,40,41,42]
 (zw 43
 (zg zq0_6 []
 .ret)
 .skip))
 (.seq (zg zq0_7 [44]
 (zw 45
 (zg zq0_8 [47,48,46,49,50]
 (zg zq0_9 [51,52,53,54,55,56,57,58]
 (zw 59
 (zg QyF []
 .ret)
 .skip)))
 .skip))
 (zg QyE [61,62,60,63,64]
 (zg QyD [66,67,65,68,69]
 (zg QyC [70,71,72,73,74,75,76,77,78,79,80]
 .ret)))))))))⟩
abbrev QL:Nat:=3
def zq1_0:AT:=mkt 0x2f2b00c0
def zq1_1:AT:=mkt 0x6517454167e6ca5ca3ac33344f05b31391adfb16cab40822ee1aad6caf3240a6ee94d2a899a557af4336d48212811d7def353c2921eb6119b404fe2a3c42049c7ac240ad4c0b7d4265af8918d8fc02ec79181159c4fff2f703c903718f57af2aaba23b718
def zq1_2:AT:=mkt 0x1c8bef124734a2bdb03b68ac0243c559b943f57cc5d8
def zq1_3:AT:=mkt 0x15c7db53d48238766f429107f18edb59da3b77f0950c42b8ab9
def zq1_4:AT:=mkt 0x2f2b00c0
def zq1_5:AT:=mkt 0xc25500e0
def Qru:AT:=mkt 0x19b5341cd6883d1c5a05f9
def Qrt:AT:=mkt 0x709dba5d5669ecb0e0629
def Qrs:AT:=mke 0x4793f5f2a4290f59f37d9829a096b7192902a92f4b25e43400506e4d8234d91553e90eede667bc5772a140742 (.wr false (some 43) none (.mark (.t 42))
 (.rd (some 44) none (.mov (.t 4))
 (.rd (some 45) none (.bin .rem (.t 44) (.c (.int .i64 7)))
 (.rd (some 46) none (.iaddr none 1 (.t 43) (.t 45))
 (.rd (some 47) none (.load false 1 (.t 46))
 (.rd (some 48) none (.iaddr none 1 (.t 40) (.t 41))
 (.wr false none none (.store 1 (.t 48) (.t 47))
 .done)))))))
def Qrr:AT:=mkt 0xfb1e54856f4cc744035e85dbf0dc6507e7e509d99bf21b850ccc1bcc2dcb0ed4cdb6a2198a
def QkS:AT:=mkt 0x2f2b00c0
def QkR:AT:=mkt 0x1cd0199b800eb18de04d9
def Qyf:AT:=mkt 0x2b02e400f0
def QkQ:AT:=mkt 0x141a1251a5f805ea
def QkP:AT:=mkt 0x2b02e400f8
def Qhz:AT:=mkt 0x427d85f0e1ba080b
def Qhy:AT:=mke 0x9cb291dbc2cc9d86da3183a413ce519469e5311be60ee1940b9cade6bd43a8b54ccb534863ae809347407cc898750202b (mkt 0x10a667fe4e8a389bcda39d004ec8a27f869e95292d18972513318b10fd7c697d3edc8c3b14988cdb87d4f13aaf3a325a289c87f6d11a7b)
def Qhx:AT:=mke 0x143893ec1f6692f31cf34e15ba34209c65ee1cbeca15eff15d2de5d087a3efe90ad5b69fac1700398c9ea9e3404dc372bd7b659442aac (mke 0xb85b667be789493b00f8d92dd0c3c29324ea988f2983b728ca601c029aec42dde4b6d285a1f0172422afc (mke 0x546880b887281eddafd497f0a0dc7c148fc31508ee47062d63f31d052d7c4bbe098e32c5c99fc5dc94f662b4c (mkt 0xd8a9750545f23251481cb2f78c4c841c84107464b651c1d8109936f838cabbff9bc2f553ed379af82a500194b1c8846379c)))
def Qhw:AT:=mkt 0x2f2b00c0
def Qhv:AT:=mkt 0x6aaaefa6d7af18b8da0b1b
def QkO:AT:=mkt 0x646497ae45354235140afb
def Qye:AT:=mkt 0x188700000000000030ad4e40108
def Qyd:AT:=mkt 0x5dbd34b34abc0e0826ac79ea2027df5c3d5b6c6df54c9df864606df3749b57a6d6c27d2cc3d57cb9d4e225b824082d7678d8cf56079555d11da205
def Qyc:AT:=mke 0x15d8646bddd99591b595b09784b41870e7af09bf20563a543ae6ff1d4fead77422e16b6711e2a94a99c286721dd77992664922df859d746840ded1d1080e82af84a345e6401d (mke 0x7fe75113d8d8a4c624499c6104e4ef712682224f8f25c61a4da1242df28a8ffa1b435479cfe722e45936e4e87e9743942b7ccbb93c32eee8fd4e6396d2f33a498406d (mke 0xe72828703f4449b8c2ac9ee1732264e39921926a2db67f89c9944a55ce41b67483e3acbe2603fef44cd8aa46b734f2a84c80d4eabf25fdf5384508d70c56a54e5cd2a5808c1a59f3a9da8b7181d1cdd4b170fa38c40671497d2ebd (.wr false (some 158) (some (155,true)) (.mark (.t 157))
 (.cl false (some 159) (some (155,true)) (.c (.fn (.func 3) [] [])) [(.t 156),(.t 158)]
 (.rd (some 160) none (.pick (.t 155) (.t 159) (.c (.bool false)))
 (.rd (some 161) none (.mov (.t 160))
 (.wr false (some 162) (some (161,true)) (.mksl 41 1 24 [(.lst 0 [] true)] (.c (.int .i64 1048577)) (.c (.int .i64 1048577)))
 (.rd (some 163) (some (161,true)) (.build [(.int .i64 0),(.lst 0 [] true)] [(1,1,(.t 162))])
 (.cl false (some 164) (some (161,true)) (.c (.fn (.func 16) [] [])) [(.t 163)]
 (.rd (some 165) (some (161,true)) (.un .not (.t 164))
 (.rd (some 166) none (.pick (.t 161) (.t 165) (.c (.bool false)))
 (.rd (some 167) none (.mov (.t 166))
 (.cl false (some 168) (some (167,true)) (.c (.fn (.func 6) [] [])) []
 (.rd (some 169) none (.pick (.t 167) (.t 168) (.c (.bool false)))
 (.rd (some 0) none (.mov (.t 169))
 .done)))))))))))))))
def QU:AF:=⟨170,[.tmp 0],
 (zg zq1_0 []
 (zg zq1_1 [11,12,13,14,15,16,17]
 (zg zq1_2 [19,20,18,21,22]
 (.seq (zg zq1_3 [23,24,25,26,27,28,29]
 (zw 30
 (zg zq1_4 []
 .ret)
 .skip))
 (.seq (zg zq1_5 []
 (.block 0 (.loop (.seq (zg Qru [31,32,33]
 (zw 34
 .skip
 (.exit 0)))
 (.seq (.block 1 (zg Qrt [37,38,39]
 (zg Qrs [40,41,42,43,44,45,46,47,48]
 (zg Qrr [49,50,51,52,53,54,55,56,57,58,59]
 (zw 60
 (zg QkS []
 .ret)
 .skip)))))
 (.reg QkR [35,36]))))))
 (.seq (zg Qyf []
 (.block 2 (.loop (.seq (zg QkQ [61]
 (zw 62
 .skip
 (.exit 2)))
 (.seq (.block 3 (zg QkP []
 (.block 4 (.loop (.seq (zg Qhz [65]
 (zw 66
 .skip
 (.exit 4)))
 (.seq (.block 5 (zg Qhy [69,70,71,72,73,74,75,76,77,78,79,80,81,82,83,84]
 (zg Qhx [85,86,87,88,89,90,91,92,93,94,95,96,97,98,99,100,101,102,103,104,105,106,107,108,109,110,111,112,113,114,115,116,117,118,119,120,121,122,123,124,125,126]
 (zw 127
 (zg Qhw []
 .ret)
 .skip))))
 (.reg Qhv [67,68])))))))
 (.reg QkO [63,64]))))))
 (zg Qye []
 (zg Qyd [128,129,130]
 (zg Qyc [131,132,133,134,135,136,137,138,139,140,141,142,143,144,145,146,147,148,149,150,151,152,153,154,155,156,157,158,159,160,161,162,163,164,165,166,167,168,169]
 .ret)))))))))⟩
abbrev YD:Nat:=4
def zq2_0:AT:=mkt 0x215fececdcb190
def zq2_1:AT:=mkt 0xa8b14affd924f90d07cb0bc3f0
def zq2_2:AT:=mkt 0x2f2b00e0
def zq2_3:AT:=mkt 0xc25500e8
def zq2_4:AT:=mkt 0xc7efac8b3f0112e0b70f5c38418
def zq2_5:AT:=mkt 0x167779e46479ec635bc82e89a2517ace71cfbe4951
def zq2_6:AT:=mkt 0x2f2b00e0
def zq2_7:AT:=mkt 0x1e0a2277774dcb6382c0
def zq2_8:AT:=mkt 0x47b200e0
def XV:AF:=⟨25,[.tmp 4],
 (zg zq2_0 []
 (.seq (zg zq2_1 [6,7,8,9]
 (zw 10
 (zg zq2_2 []
 .ret)
 .skip))
 (.seq (zg zq2_3 []
 (.block 0 (.loop (.seq (zg zq2_4 [11,12,13,14]
 (zw 15
 .skip
 (.exit 0)))
 (.seq (.block 1 (zg zq2_5 [18,19,20,21,22,23]
 (zw 24
 (zg zq2_6 []
 .ret)
 .skip)))
 (.reg zq2_7 [16,17]))))))
 (zg zq2_8 []
 .ret))))⟩
abbrev Qay:Nat:=5
def zq3_0:AT:=mkt 0x2f2b00c0
def zq3_1:AT:=mkt 0x73a413ce0bfd634f7f46ea58f4d8d4c9e7542a395addea57c265771ae006f2aaba23b5a0
def zq3_2:AT:=mkt 0x3f42a717f21e5e77527539aa016ec546e8ad6fea57b0003719eac0f2aaba23b5c8
def zq3_3:AT:=mkt 0xf64dfb04e210e3d9bcf10686ec056bd704c36a49cc864ef28602f24b66a8e422be0d14ea737ab4b04f7d48c48b3065b0f4b717023673a986d98a24f466a35bbd7b36e4ddfeb117fb80593b12999223f1c8b90de71
def zq3_4:AT:=mkt 0x289a3bac19cc375d4ffd9a85afd9cf12af197aa695a3fb9374a8a1528252a1ad94e6e4f776d54b23b12b31ec3f1c8b90daf9
def zq3_5:AT:=mkt 0x3cd0d1690dbe141ef3ba8501b8e705ada938d647063477c992206ffd3f7535d5a20fa5978778cd2536436c8de8451cad31c745b4932a
def zq3_6:AT:=mke 0x1fb46a5c1bc8881bc879e0aef65622502efc697d409885ece462a461d6a2dc7567af17fec3f01642962c1f5b (mke 0x29c64c8249ab7042176eefc4cd265086209c620c85246bd612fa2b5669fd0da9ca58d737ef20cb9a7901fab (mke 0x1052a3c8fec8659640ab7637f093fd329a72d1c46fdd973daefc8d82e29c3c5eed70d7bbc74205d6056fb48741ffb (mke 0x1013096a8079480b4b (.rd (some 76) (some (73,true)) (.bin .eql (.t 75) (.c (.str [112,32,99,110,102,32,50,32,49,10,49,32,45,50,32,48,10])))
 (.rd (some 77) none (.pick (.t 73) (.t 76) (.c (.bool false)))
 (.rd (some 0) none (.mov (.t 77))
 .done))))))
def XF:AF:=⟨78,[.tmp 0],
 (zg zq3_0 []
 (zg zq3_1 [12,13,11,14,15]
 (zg zq3_2 [17,18,16,19,20,3]
 (zg zq3_3 [22,23,24,25,26,27,21,28,29]
 (zg zq3_4 [31,32,33,30,34,35]
 (zg zq3_5 [37,38,39,40,36,41,42]
 (zg zq3_6 [43,44,45,46,47,48,49,50,51,52,53,54,55,56,57,58,59,60,61,62,63,64,65,66,67,68,69,70,71,72,73,74,75,76,77]
 .ret)))))))⟩
abbrev ZN:Nat:=6
def zq4_0:AT:=mkt 0x176b4f439459dcb248
def zq4_1:AT:=mkt 0x16e23ae119707357cc288
def zq4_2:AT:=mkt 0x95ea6b0b90190
def zq4_3:AT:=mkt 0x69aff5fb24026530e0
def zq4_4:AT:=mke 0x5c74e8f2fe7a22d2f2b89678edf3f0214fa44e0 (.rd (some 15) none (.bin .add (.c (.str [112,32,99,110,102,32])) (.t 14))
 (.rd (some 16) none (.bin .add (.t 15) (.c (.str [32])))
 (.cl false (some 20) none (.c (.fn (.func 22) [] [])) [(.t 19)]
 (.rd (some 21) none (.bin .add (.t 16) (.t 20))
 (.rd (some 22) none (.bin .add (.t 21) (.c (.str [10])))
 (.cl false (some 23) none (.c (.fn (.func 21) [] [])) [(.t 4),(.t 22)]
 .done))))))
def zq4_5:AT:=mkt 0x242a20d3468dff60a1de45c1
def zq4_6:AT:=mkt 0x64ba4221
def zq4_7:AT:=mkt 0xce9f998052dd8f0804a9
def QpC:AT:=mkt 0xca7b899127b2112ded3fc03e90822f6988d6193c009e80ca010879
def zq4_9:AT:=mkt 0x64ba4269
def QvP:AT:=mkt 0x10c9c75f78ac2c8c804f1
def QvO:AT:=mkt 0x33e25e46a425026515bd6300742
def QvN:AT:=mkt 0x403412cc2c0055a
def QvM:AT:=mkt 0xb8a69d03749e1036a
def QvL:AT:=mkt 0x2e44b6a9137d3020572
def QvK:AT:=mkt 0x39fb1603749e1037a
def QvJ:AT:=mkt 0x3046c6eeada70560582
def QvI:AT:=mkt 0x256ef554ce964baf4a721078a
def Qca:AF:=⟨50,[.tmp 2,.tmp 3],
 (zg zq4_0 []
 (.seq (zg zq4_1 [9,10]
 (zw 11
 (zg zq4_2 []
 .ret)
 .skip))
 (zg zq4_3 []
 (zg zq4_4 [12,13,14,15,16,17,18,19,20,21,22,23]
 (.seq (zg zq4_5 [24]
 (.block 0 (.loop (zg zq4_6 []
 (.seq (zw 28
 .skip
 (.exit 0))
 (.seq (.block 1 (zg zq4_7 [29,30]
 (.seq (zg QpC [31,32,33]
 (.block 2 (.loop (zg zq4_9 []
 (.seq (zw 37
 .skip
 (.exit 2))
 (.seq (.block 3 (zg QvP [38,39]
 (zg QvO [40,41,42]
 (zg QvN [43]
 (zw 44
 (.reg QvM [45])
 .skip)))))
 (.reg QvL [46])))))))
 (.reg QvK [47]))))
 (.reg QvJ [48])))))))
 (zg QvI [49]
 .ret))))))⟩
abbrev Zg:Nat:=7
def zq5_0:AT:=mkt 0x5dad31fa1e412d7b248
def zq5_1:AT:=mkt 0x16e213b169ac3b57cc278
def zq5_2:AT:=mkt 0x257a994b1470190
def zq5_3:AT:=mke 0x4e4173f83087a894b3eca177080d83a14fa44d0 (.rd (some 13) none (.bin .add (.c (.str [112,32,99,110,102,32])) (.t 12))
 (.rd (some 14) none (.bin .add (.t 13) (.c (.str [32])))
 (.cl false (some 18) none (.c (.fn (.func 22) [] [])) [(.t 17)]
 (.rd (some 19) none (.bin .add (.t 14) (.t 18))
 (.rd (some 20) none (.bin .add (.t 19) (.c (.str [10])))
 (.rd (some 4) none (.mov (.t 20))
 .done))))))
def zq5_4:AT:=mkt 0xc25500e8
def zq5_5:AT:=mkt 0x63edae6757e7b169f39ccc1086e9
def zq5_6:AT:=mkt 0xc25500f0
def zq5_7:AT:=mkt 0x48a20ccd0fb011367ecbda81e1ae87589ccda30ae1
def zq5_8:AT:=mke 0x3045044b3cefdbc0f8ad0d058649ecf1e7b7acd95f0e24d32645cfeb01732 (.rd (some 49) none (.bin .add (.t 48) (.c (.str [32])))
 (.rd (some 4) none (.mov (.t 49))
 .done))
def zq5_9:AT:=mkt 0x1d9d33af64c21dc0304e1
def QvH:AT:=mke 0xa100392 (.rd (some 51) none (.bin .add (.t 50) (.c (.str [48,10])))
 (.rd (some 4) none (.mov (.t 51))
 .done))
def QvG:AT:=mkt 0x159c4c806e3db7a708491
def QvF:AT:=mkt 0x8b25806ed21ae1d807a2
def XT:AF:=⟨53,[.tmp 2,.tmp 3],
 (zg zq5_0 []
 (.seq (zg zq5_1 [7,8]
 (zw 9
 (zg zq5_2 []
 .ret)
 .skip))
 (zg zq5_3 [10,11,12,13,14,15,16,17,18,19,20]
 (.seq (zg zq5_4 []
 (.block 0 (.loop (.seq (zg zq5_5 [21,22,23,24]
 (zw 25
 .skip
 (.exit 0)))
 (.seq (.block 1 (.seq (zg zq5_6 []
 (.block 2 (.loop (.seq (zg zq5_7 [28,29,30,31,32,33,34]
 (zw 35
 .skip
 (.exit 2)))
 (.seq (.block 3 (.reg zq5_8 [38,39,40,41,42,43,44,45,46,47,48,49]))
 (.reg zq5_9 [36,37]))))))
 (.reg QvH [50,51])))
 (.reg QvG [26,27]))))))
 (zg QvF [52]
 .ret)))))⟩
abbrev YU:Nat:=8
def zq6_0:AT:=mkt 0x1579bfe4b989bc1cb188
def zq6_1:AT:=mkt 0x166d61414c0399ee17d3b6a4266e1a6a43798b009dfa4498
def XG:AF:=⟨8,[.cell 2 true 2],
 (zg zq6_0 []
 (zg zq6_1 [3,4,5,6,7]
 .ret))⟩
abbrev ZO:Nat:=9
def zq7_0:AT:=mkt 0x1e8de0187af34f283190
def zq7_1:AT:=mkt 0x418f221c5976064c3607cac6c35542179a4f3cfdf0398
def zq7_2:AT:=mkt 0x87c723d95c78cca59996ef5fc031d7b83f30c028b9163e912a6f4ca0831
def zq7_3:AT:=mkt 0x13316daf3733f9b48499
def zq7_4:AT:=mkt 0x482abcaab17207c77c44800b04b1
def zq7_5:AT:=mkt 0x2f00ac047e974f7d29dcedf985c23c237561d55eebb8e5732689765c8d81
def zq7_6:AT:=mkt 0x64cc73e5ee740fd8efd65cd80251e908a1698093a
def zq7_7:AT:=mkt 0x127589337af2d57e54343d0094a
def QtF:AT:=mkt 0xa12a036a
def QtE:AT:=mkt 0x51630fc346d9c41400772
def QnE:AT:=mkt 0x60390118
def QnD:AT:=mkt 0x8d409f73af58772770a7380982
def Qhu:AT:=mkt 0xa12a03a2
def Qht:AT:=mkt 0x5d8261eb48376ab4007aa
def Qhs:AT:=mkt 0x33516e53137280c27e9f5a40876404ff49773250de73c11c2
def Qhr:AT:=mke 0x25bc03ea (.rd (some 62) none (.eqi true (.t 61))
 .done)
def Qhq:AT:=mkt 0x33652dd9e405fa
def Qhp:AT:=mkt 0x59dd274eeceea577b55e111c0296ba4561dc5201821103
def Qho:AT:=mkt 0x153442c4b9f2aa310823
def QnC:AT:=mkt 0x2cfed2fd6aa68a20b2b
def QnB:AT:=mkt 0xeeacbd098546785bb67eb81feec81b4808d6098164500795e89d21ee8c070203b
def QnA:AT:=mkt 0x86ef87da8ca55db14b9fe5ada26b2dd0eddb8f76544eef9731fb640342ac73d7cdcc0b497eb8692c5dd72f268b
def Qnz:AT:=mkt 0x1cafaa5c58afb71308e3
def QvE:AT:=mkt 0x1da29bbe5eed023af3fb60dcd6f53a1a4df9ebe12f9b1441ef4
def QvD:AT:=mke 0x23380714 (.rd (some 99) none (.eqi true (.t 98))
 (.rd (some 100) none (.mov (.t 99))
 (.rd (some 101) (some (100,false)) (.mov (.t 18))
 (.rd (some 102) (some (100,false)) (.bin .neq (.t 101) (.c (.int .i64 0)))
 (.rd (some 103) none (.pick (.t 100) (.c (.bool true)) (.t 102))
 (.rd (some 104) none (.mov (.t 103))
 (.rd (some 105) (some (104,false)) (.mov (.t 17))
 (.rd (some 106) (some (104,false)) (.mov (.t 0))
 (.cl false (some 107) (some (104,false)) (.c (.fn (.func 30) [] [])) [(.t 105),(.t 106)]
 (.rd (some 108) (some (104,false)) (.un .not (.t 107))
 (.rd (some 109) none (.pick (.t 104) (.c (.bool true)) (.t 108))
 .done)))))))))))
def QvC:AT:=mkt 0x1bb167c32a7135b27e5a74ccf00f74
def QvB:AT:=mkt 0x1c16f157bf5aef9f949440f7c
def Qcb:AF:=⟨112,[.cell 2 true 2,.tmp 3],
 (zg zq7_0 []
 (zg zq7_1 [19,20,21]
 (zg zq7_2 [22,23,24,25,26]
 (.seq (zg zq7_3 [27,28]
 (zw 29
 (zg zq7_4 [30]
 .ret)
 .skip))
 (zg zq7_5 [32,33,34,35,36,31,37,38]
 (zg zq7_6 [39,40]
 (.seq (zg zq7_7 [41]
 (.block 0 (.loop (zg QtF []
 (.seq (zw 45
 .skip
 (.exit 0))
 (.seq (.block 1 (zg QtE [46,47]
 (zg QnE []
 (.seq (zg QnD [48]
 (.block 2 (.loop (zg Qhu []
 (.seq (zw 52
 .skip
 (.exit 2))
 (.seq (.block 3 (zg Qht [53,54]
 (zg Qhs [56,57,58,55,59,60]
 (.seq (zg Qhr [61]
 (zw 62
 (.reg Qhq [63])
 .skip))
 (.reg Qhp [64,65,66,67])))))
 (.reg Qho [68])))))))
 (zg QnC [69,70]
 (zg QnB [71,72,73,74,75,76,77,78,79]
 (zw 80
 (.reg QnA [81,82,83,84,85,86,87,88,89,90,91])
 .skip)))))))
 (.reg Qnz [92])))))))
 (.seq (zg QvE [94,95,93,96,97]
 (zg QvD [98,99,100,101,102,103,104,105,106,107,108]
 (zw 109
 (zg QvC [110]
 .ret)
 .skip)))
 (zg QvB [111]
 .ret)))))))))⟩
abbrev QgF:Nat:=10
def zq8_0:AT:=mkt 0xa7e7cedbd6adcb250
def zq8_1:AT:=mkt 0x24dbf78814523824215154a37d56c255bfaaf7053036d482bcec687256d193df6d613ca1a4ab0
def zq8_2:AT:=mkt 0x2f2b00e0
def zq8_3:AT:=mkt 0xc25500e8
def QzY:AT:=mkt 0x5f5ec90c27ac0e4deccac21086e1
def QzX:AT:=mkt 0x8d2b8c91d0bb2883aa8b4a8f87f0ebd84f59b86c70551e538357ace71cfbe4fd9
def QzW:AT:=mkt 0x2f2b00e0
def QzV:AT:=mkt 0x14cf6b6f0f7c97a708489
def zq8_8:AT:=mkt 0x47b200e0
def XK:AF:=⟨39,[.tmp 4],
 (zg zq8_0 []
 (.seq (zg zq8_1 [6,7,8,9,10,11,12,13,14,15,16,17,18]
 (zw 19
 (zg zq8_2 []
 .ret)
 .skip))
 (.seq (zg zq8_3 []
 (.block 0 (.loop (.seq (zg QzY [20,21,22,23]
 (zw 24
 .skip
 (.exit 0)))
 (.seq (.block 1 (zg QzX [27,28,29,30,31,32,33,34,35,36,37]
 (zw 38
 (zg QzW []
 .ret)
 .skip)))
 (.reg QzV [25,26]))))))
 (zg zq8_8 []
 .ret))))⟩
abbrev YG:Nat:=11
def zq9_0:AT:=mkt 0x1e8de0187af360233190
def zq9_1:AT:=mkt 0x603900e0
def zq9_2:AT:=mkt 0xc25500e8
def zq9_3:AT:=mkt 0xc25500f0
def Qot:AT:=mkt 0x322304a935f48ce290380
def Qos:AT:=mkt 0xf0e8e0bbfde87d5c9a6b820edf98f8257499ae15462c592a68a31e0140870b7b00fb1
def Qor:AT:=mkt 0x19eff0948d5e1a9c4d997fbc5925a1931ac8305958704054c6675c0381e101312
def Qoq:AT:=mkt 0xd98e9075d6bee3eb80752
def Qop:AT:=mkt 0x251b807dc1806c5502e0
def zq9_9:AT:=mke 0x17b8008a6e0ef6bf545896d80b979c3806e2d00f62 (.rd (some 51) (some (47,false)) (.bin .neq (.t 50) (.c (.str [112])))
 (.rd (some 52) none (.pick (.t 47) (.c (.bool true)) (.t 51))
 (.rd (some 53) none (.mov (.t 52))
 (.rd (some 54) (some (53,false)) (.mov (.t 4))
 (.rd (some 55) (some (53,false)) (.iaddr none 1 (.t 54) (.c (.int .i64 1)))
 (.rd (some 56) (some (53,false)) (.load false 1 (.t 55))
 (.rd (some 57) (some (53,false)) (.bin .neq (.t 56) (.c (.str [99,110,102])))
 (.rd (some 58) none (.pick (.t 53) (.c (.bool true)) (.t 57))
 .done))))))))
def QvA:AT:=mkt 0x1c88ad124e6cad93f2d3a667807da
def Qvz:AT:=mkt 0x133ec64460f1310927693c83b94626f5587bc841fca369c17bf1dad181ceb
def Qvy:AT:=mkt 0x17790cd1b88599d9ababe6fcba8138707959aa0e1b
def Qvx:AT:=mkt 0x60390110
def Qvw:AT:=mkt 0x3d3350118
def Qny:AT:=mkt 0x2dfc78a1a73e43465020e2b
def Qnx:AT:=mkt 0xf09a87f96ff254231e3aa10c6e5c10b677efe306a9a97d1cc818ce1382063
def Qnw:AT:=mkt 0x423bd56124d63eb99ea6b5293d0119b
def Qnv:AT:=mkt 0xd47f097123808bb
def Qnu:AT:=mkt 0x7b64c4a62ca6652fc18a111c0296ba4561cdc8e8fc11cb
def Qnt:AT:=mkt 0xb630567ce9eea9d3fd243127dd4151275c25ff50acc53dbec8f941eec
def Qns:AT:=mkt 0x60390110
def Qnr:AT:=mkt 0x7414adce46cd32c7f20b4b
def Qvv:AT:=mkt 0x1f77d4155f5d1ce081611e0ed1a0266890a98d02f7d3d441f24
def Qvu:AT:=mkt 0x158e494469274a81b36a258aa52efba2c867e38fe58e80710c195b42f8aff1498003344
def Qvt:AT:=mkt 0x1bb167c32a7135b27e5a74ccf00fa4
def Qvs:AT:=mkt 0x1c16f157bf5aefa00d5440fac
def XU:AF:=⟨118,[.cell 2 true 2,.tmp 3],
 (zg zq9_0 []
 (zg zq9_1 []
 (zg zq9_2 []
 (.seq (zg zq9_3 []
 (.block 0 (.loop (.seq (zg Qot [16,17,18]
 (zw 19
 .skip
 (.exit 0)))
 (.seq (.block 1 (zg Qos [22,23,24,25,26,27,28,29,30,31,32]
 (zw 33
 (zg Qor [34,35,36,37,38,39,40,41]
 (.reg Qoq [42,43]))
 .skip)))
 (.reg Qop [20,21]))))))
 (.seq (zg zq9_9 [44,45,46,47,48,49,50,51,52,53,54,55,56,57]
 (zw 58
 (zg QvA [59]
 .ret)
 .skip))
 (zg Qvz [61,62,63,64,60,65,66]
 (zg Qvy [67,68]
 (zg Qvx []
 (.seq (zg Qvw []
 (.block 2 (.loop (.seq (zg Qny [69,70,71]
 (zw 72
 .skip
 (.exit 2)))
 (.seq (.block 3 (zg Qnx [76,77,78,79,80,75,81,82]
 (zg Qnw [83,84,85,86]
 (.seq (zg Qnv [87]
 (zw 88
 (zg Qnu [89,90,91,92]
 (.exit 3))
 .skip))
 (zg Qnt [93,94,95,96,97,98]
 (.reg Qns []))))))
 (.reg Qnr [73,74]))))))
 (zg Qvv [100,101,99,102,103]
 (.seq (zg Qvu [104,105,106,107,108,109,110,111,112,113,114]
 (zw 115
 (zg Qvt [116]
 .ret)
 .skip))
 (zg Qvs [117]
 .ret))))))))))))⟩
abbrev Qax:Nat:=12
def zqa_0:AT:=mkt 0x363d62525dcb1a8
def zqa_1:AT:=mke 0x4171f78a64ba9cba1378d6eea04f128facf0897762acf26957a847fbbe0ffd910c0254d21 (mkt 0x1e9105ca736291330cfc0451261246c73550018be6c4590f464eeaf1)
def zqa_2:AT:=mkt 0x80abc2ec4840a3b1
def zqa_3:AT:=mkt 0x12d0e21c1f7e41977bbee3ede4021286a2093a
def zqa_4:AT:=mkt 0x146666f1d211a43fa1fbc53f4b96bcac2213baa3180f52
def zqa_5:AT:=mkt 0x16aab0d69762bcabec4343e97b324f8e560ede0f180f7a
def zqa_6:AT:=mkt 0x2e3c7495d73bd81fa765224a03eddcd60049dbaa82d76714a2dc813a2
def zqa_7:AT:=mkt 0x4f6a259d88be74dfc241ca42bf02fbf454efbe1d0e509caae0556ac1cdb
def zqa_8:AT:=mke 0x12449c56f150992cd8d64d8dbc4a08aeca8495847885522a7d4ef6b300d9f82c3d5442a0c (mke 0x7d58e84d56b85e83dcae75895b4bce021513b211a3f4af43107c58497e18a2898edb842a4c (mke 0x39fe996ef455f56b0a3be59cb93a1c54962a77b8b0009b83a3edf36f2a7362aac (mkt 0x4798ce0d6b3ec4276ade12ab7b74302343415fed2890f0c2a208c84e22fc)))
def QV:AF:=⟨102,[.tmp 10],
 (zg zqa_0 []
 (.seq (zg zqa_1 [20,21,22,23,24,25,26,27,28,29,30,31,32,33,34,35,36]
 (zw 37
 (zg zqa_2 [38]
 .ret)
 .skip))
 (zg zqa_3 [39,40]
 (zg zqa_4 [42,43,41,44,45]
 (zg zqa_5 [47,48,46,49,50]
 (zg zqa_6 [52,53,54,55,51,56,57]
 (zg zqa_7 [59,60,61,62,58,63,64]
 (zg zqa_8 [65,66,67,68,69,70,71,72,73,74,75,76,77,78,79,80,81,82,83,84,85,86,87,88,89,90,91,92,93,94,95,96,97,98,99,100,101]
 .ret))))))))⟩
abbrev QH:Nat:=13
def zqb_0:AT:=mkt 0x215fececdcb190
def zqb_1:AT:=mkt 0x3cef125cef79439298af760b7253728920a3bae59af1d00fa2dfbcc670
def zqb_2:AT:=mkt 0x109a118229686230
def zqb_3:AT:=mkt 0xebc1dee9a87e30ceafd8e3c1295cace545b9
def zqb_4:AT:=mkt 0x33a1044d36f45a6d876ca8877577a434fca6d150272cf2fc647e93e73ade54c11
def zqb_5:AT:=mkt 0x3df48fc34bd570af2dc9584371782f7251d7c1fee7518754b2f5816f6c1254c41
def zqb_6:AT:=mkt 0x1be13bb0b05f1657c771897ba0c7512605db2eb534a20f32
def zqb_7:AT:=mkt 0x1f47aa87d858bafa36dcc77ae830ad795a69559886a20f5a
def zqb_8:AT:=mke 0xae16b171c2960c927c9191d1db869588bf271ea5c6691ac53fdf22268ca1f7b (mkt 0x8b9bf58f9acf4c0c79715e759ea2fdcb43ed6d31c45c72f74fd141700f3e39b567b27c7bede7a5cb)
def QT:AF:=⟨68,[.tmp 4],
 (zg zqb_0 []
 (.seq (zg zqb_1 [14,15,16,17,18,19,20]
 (zw 21
 (zg zqb_2 [22]
 .ret)
 .skip))
 (zg zqb_3 [23,24]
 (zg zqb_4 [26,27,28,25,29,30]
 (zg zqb_5 [32,33,34,31,35,36]
 (zg zqb_6 [38,39,37,40,41]
 (zg zqb_7 [43,44,42,45,46]
 (zg zqb_8 [47,48,49,50,51,52,53,54,55,56,57,58,59,60,61,62,63,64,65,66,67]
 .ret))))))))⟩
abbrev Xc:Nat:=14
def QzU:AT:=mkt 0x363d62525dcb1a8
def QzT:AT:=mke 0x44b84d689e55514938a459c62eeace8f32d92ba9742e0b92e6709e5d13d69a86a214ba (mkt 0x2477e94be53dd69721cca69ec759c93eb292c77d2beadef8cb5110a)
def QzS:AT:=mkt 0x22e74cab87b61054a
def QzR:AT:=mkt 0x78fd107f36446f590f479a19d8458a8e78ddf579d653c9e8c1e7e4190ab4ea2135a
def QzQ:AT:=mkt 0x235c1a5952af7d691c2d551c6bb85c4385f0cec086a20f8a
def QzP:AT:=mkt 0x1895962b901f8
def QzO:AT:=mkt 0x55b52c3a0d7960c96dbbca09aa
def QzN:AT:=mkt 0x175aa9245f5b8945a1881729f7a35a7be910ffcabc634bca6cf5ef559af1fcb
def QzM:AT:=mkt 0x1a9673e6a3d1e99fd3e3574e12607593ccf8207ab8634e5c9c2985559af2013
def QzL:AT:=mkt 0x6481e816a27805368cd2e8f0af384c578f356b52c524324271c8e9a1d63
def QpB:AT:=mkt 0xc2550158
def Qnq:AT:=mkt 0x2f15107f646ea1823861198c75b421193
def Qnp:AT:=mkt 0x3e1410813d1c1aead3ee71fa155e90ecb
def Qno:AT:=mkt 0xc2550168
def Qi9:AT:=mkt 0x5bab41641a80062c762ce0ee3
def Qi8:AT:=mkt 0xceeadac91af62bbe6c4e155ec45233639ea50c2359b5eaa47202714
def Qi7:AT:=mkt 0x1dc01e2d0129aedb0e80f04
def Qnn:AT:=mkt 0x724f58ec730d95603dc2721cdd441354
def QkN:AT:=mke 0x259185ab3c30e55a9204f3615c1838f7fd14120660252ad958c11f7264c83f6d (mke 0x217763e0dc4402eb8baa13d549c2280f1b79420e804baa6dabe4d929f0e4cc2e294c3fbd (mkt 0x216c63d726a6a49a1fc8bf01f245842223881da5cb3960d5f280d))
def QkM:AT:=mkt 0x2f2b0110
def QkL:AT:=mke 0x5aff80d6859343f145591e3eebf2076d30cba9f0a732dcf3796707ec7abc3224e18403d (mkt 0x6385ddca9adb411539dcaa901cb624ca9d1f8cddea48f282e8d)
def QkK:AT:=mkt 0x2f2b0110
def Qnm:AT:=mkt 0x8a0b4a75b731a6e6220bbb
def QpA:AT:=mkt 0xd5eeaa8f43882310c5
def QA:AF:=⟨153,[.tmp 10],
 (zg QzU []
 (.seq (zg QzT [23,24,25,26,27,28,29,30,31,32,33,34,35,36,37,38,39]
 (zw 40
 (zg QzS [41]
 .ret)
 .skip))
 (zg QzR [43,44,45,42,46,47]
 (zg QzQ [49,50,48,51,52]
 (zg QzP []
 (.seq (zg QzO [53,54,55]
 (zw 56
 (zg QzN [57,58,59,60,61,62,63,64,65]
 (.reg QzM [66,67,68,69,70,71,72,73,74]))
 .skip))
 (zg QzL [76,77,78,79,75,80,81]
 (.seq (zg QpB []
 (.block 0 (.loop (.seq (zg Qnq [82,83,84,85]
 (zw 86
 .skip
 (.exit 0)))
 (.seq (.block 1 (zg Qnp [89,90,91]
 (.seq (zg Qno []
 (.block 2 (.loop (.seq (zg Qi9 [92,93,94]
 (zw 95
 .skip
 (.exit 2)))
 (.seq (.block 3 (.reg Qi8 [98,99,100,101,102,103,104,105]))
 (.reg Qi7 [96,97]))))))
 (zg Qnn [106,107,108]
 (.seq (zg QkN [109,110,111,112,113,114,115,116,117,118,119,120,121,122,123,124,125,126,127,128,129,130,131,132,133]
 (zw 134
 (zg QkM []
 .ret)
 .skip))
 (zg QkL [135,136,137,138,139,140,141,142,143,144,145,146,147,148,149,150]
 (zw 151
 (zg QkK []
 .ret)
 .skip)))))))
 (.reg Qnm [87,88]))))))
 (zg QpA [152]
 .ret)))))))))⟩
abbrev Xw:Nat:=15
def zqd_0:AT:=mkt 0x163f8b1dcb188
def zqd_1:AT:=mkt 0x2378b1cfe83703937728bfd345719f1c738bbadeeb69eb1ab0f321937115e40845b6a9d6559c0c93d1f738130f7934c314fa4ab8
def zqd_2:AT:=mkt 0x2f2b00d0
def zqd_3:AT:=mkt 0x242a20d3468dff60a1de45a9
def zqd_4:AT:=mkt 0x64ba4209
def zqd_5:AT:=mkt 0xb9f4b3a198067bc80491
def zqd_6:AT:=mkt 0x663aaa2c3e02204a1
def zqd_7:AT:=mkt 0x64ba4239
def zqd_8:AT:=mkt 0xe34894cc9164a24804c1
def zqd_9:AT:=mke 0x6a854e2ecfe126e4781dd181cb40989e5bca9a7693e0baecc9765781512 (mkt 0x3034e065587bdec29ae4aa9dfa54f0b62)
def Qvr:AT:=mkt 0x2f2b00d0
def Qvq:AT:=mkt 0x314876f44e9913a058a
def Qvp:AT:=mkt 0x32495d8357b4f720592
def Qvo:AT:=mkt 0x47b200d0
def Qaa:AF:=⟨51,[.tmp 2],
 (zg zqd_0 []
 (.seq (zg zqd_1 [7,8,9,10,11,12,13,14,15,16,17,18,19]
 (zw 20
 (zg zqd_2 []
 .ret)
 .skip))
 (.seq (zg zqd_3 [21]
 (.block 0 (.loop (zg zqd_4 []
 (.seq (zw 25
 .skip
 (.exit 0))
 (.seq (.block 1 (zg zqd_5 [26,27]
 (zg zqd_6 []
 (.block 2 (.loop (zg zqd_7 []
 (.seq (zw 31
 .skip
 (.exit 2))
 (.seq (.block 3 (zg zqd_8 [32,33]
 (zg zqd_9 [34,35,36,37,38,39,40,41,42,43,44,45,46,47]
 (zw 48
 (zg Qvr []
 .ret)
 .skip))))
 (.reg Qvq [49])))))))))
 (.reg Qvp [50])))))))
 (zg Qvo []
 .ret))))⟩
abbrev ZZ:Nat:=16
def zqe_0:AT:=mkt 0xc0d1a7b90190
def zqe_1:AT:=mkt 0x503aae9a9d9b390e0278
def zqe_2:AT:=mkt 0x2f12418d1d5c75401c8
def zqe_3:AT:=mkt 0x78535594e65ad0d40298
def zqe_4:AT:=mkt 0x176b4c6f1376e02a8
def QzK:AT:=mkt 0x3c6fc140
def QzJ:AT:=mkt 0x129078de1775eaf4dcfabccba68448
def QzI:AT:=mke 0x9186ef05f57b0d8c10f459f5abc76c0fdc28f20920281b3b657814a2 (mke 0xc28013a4a9f8c70a320c7ac54b47e85dee7f04c25d653f4158a1aa532e253714f2 (mkt 0x910d13a075bced866c449035a4134b0b906d0d42))
def QzH:AT:=mkt 0xc0d1a7b90190
def QzG:AT:=mkt 0x2e42e0945bdecc60572
def Qvn:AT:=mkt 0x33d974971b6c91d8077a
def Qac:AF:=⟨48,[.tmp 2,.tmp 3],
 (zg zqe_0 []
 (zg zqe_1 [7,8]
 (zg zqe_2 [9,10]
 (zg zqe_3 [11,12]
 (.seq (zg zqe_4 []
 (.block 0 (.loop (zg QzK []
 (.seq (zw 16
 .skip
 (.exit 0))
 (.seq (.block 1 (zg QzJ [17,18,19]
 (zg QzI [20,21,22,23,24,25,26,27,28,29,30,31,32,33,34,35,36,37,38,39,40,41,42,43,44]
 (zw 45
 (zg QzH []
 .ret)
 .skip))))
 (.reg QzG [46])))))))
 (zg Qvn [47]
 .ret))))))⟩
abbrev Z0:Nat:=17
def zqf_0:AT:=mkt 0x5af2e3dc859dcb248
def zqf_1:AT:=mkt 0x16e24e7f12b07357cc290
def zqf_2:AT:=mkt 0xc0d1a7b90190
def zqf_3:AT:=mkt 0x1f61f03967a856eba3ee8fb2a8
def zqf_4:AT:=mkt 0x603900e8
def zqf_5:AT:=mkt 0x127be400f0
def zqf_6:AT:=mkt 0x2c3621c0be4abd2410370
def zqf_7:AT:=mkt 0x33daf70ac525f82d0
def zqf_8:AT:=mkt 0x848e53a0b3e1d0715ebc3a0
def QzF:AT:=mkt 0x64ba4201
def Qpz:AT:=mkt 0xb3158a57d12420080489
def Qpy:AT:=mkt 0xa57984b5605651774b2d040499
def Qpx:AT:=mkt 0x1ebe688319e9a96a38078829c790899533579cd0a8cd260871
def Qpw:AT:=mkt 0xa7b06ec5867d185df79936dc619
def Qpv:AT:=mkt 0xc0d1a7b90190
def Qpu:AT:=mkt 0x4646c8cc4c1839ce80f082387513f16093a
def Qpt:AT:=mkt 0x467f452e40c640ae13687182ddd874c7b1160b52
def Qps:AT:=mkt 0x132cf9749a39a584420c93e834d1e2e63b57a0f64ad8a59e93af885f40f72
def Qpr:AT:=mkt 0x344c20dd070ef2605a2
def Qvm:AT:=mkt 0x197f29ca039955ea405aa
def Qvl:AT:=mkt 0x33d9749da21d145c07ba
def Z9:AF:=⟨56,[.tmp 2,.tmp 3],
 (zg zqf_0 []
 (.seq (zg zqf_1 [10,11]
 (zw 12
 (zg zqf_2 []
 .ret)
 .skip))
 (zg zqf_3 [13]
 (zg zqf_4 []
 (.seq (zg zqf_5 []
 (.block 0 (.loop (.seq (zg zqf_6 [14,15,16]
 (zw 17
 .skip
 (.exit 0)))
 (.block 1 (zg zqf_7 [18,19]
 (zg zqf_8 [20]
 (.block 2 (.loop (zg QzF []
 (.seq (zw 24
 .skip
 (.exit 2))
 (.seq (.block 3 (zg Qpz [25,26]
 (.seq (zg Qpy [27,28]
 (zw 29
 (.exit 3)
 .skip))
 (zg Qpx [30,31,32,33]
 (.block 4 (zg Qpw [35,36,37]
 (zw 34
 (zg Qpv []
 .ret)
 (zg Qpu [39,40,41]
 (zw 38
 (zg Qpt [42,43,44,45]
 (.reg Qps [46,47,48,49,50,51]))
 .skip)))))))))
 (.reg Qpr [52])))))))))))))
 (zg Qvm [53,54]
 (zg Qvl [55]
 .ret)))))))⟩
abbrev Y3:Nat:=18
def zqg_0:AT:=mkt 0x93cab24658443db268
def zqg_1:AT:=mke 0x157c8875b3cd75de8b6cb70a29f3f2b8c696a74009a719044160c4666dccc1 (mke 0x45c87f2a731895b27dc0aa36968c716bac3a0a1b70d89dbec52342536ad9ed11 (mkt 0x33d789adbdd6637b1cb87c2f5744c567393b3480861))
def zqg_2:AT:=mkt 0xc0d1a7b901b0
def zqg_3:AT:=mkt 0x18c219cb7ebcf138baa17361f0ff348e163777f549fe0779b73c0f4cabc859ac775e1bd018e60a3f08cc01712
def Y5:AF:=⟨43,[.tmp 6,.tmp 7],
 (zg zqg_0 []
 (.seq (zg zqg_1 [8,9,10,11,12,13,14,15,16,17,18,19,20,21,22,23,24,25,26,27,28,29,30,31,32]
 (zw 33
 (zg zqg_2 []
 .ret)
 .skip))
 (zg zqg_3 [34,35,36,37,38,39,40,41,42]
 .ret)))⟩
abbrev Qai:Nat:=19
def zqh_0:AT:=mkt 0x2f2b00e0
def zqh_1:AT:=mkt 0x585a94c6b9d6f042b23a803f0
def zqh_2:AT:=mkt 0x2f2b00e0
def zqh_3:AT:=mkt 0xc25500e8
def QzE:AT:=mkt 0x2352cd640a6b9cd378358
def QzD:AT:=mkt 0x15aa47a07da0828c5d83f9925cc2d9087db247a680bc9
def QzC:AT:=mkt 0x2f2b00e0
def QzB:AT:=mkt 0x1c45e52d637bcb6382b8
def zqh_8:AT:=mkt 0x47b200e0
def Xs:AF:=⟨26,[.tmp 4],
 (zg zqh_0 []
 (.seq (zg zqh_1 [6,7,8,9]
 (zw 10
 (zg zqh_2 []
 .ret)
 .skip))
 (.seq (zg zqh_3 []
 (.block 0 (.loop (.seq (zg QzE [11,12,13]
 (zw 14
 .skip
 (.exit 0)))
 (.seq (.block 1 (zg QzD [17,18,19,20,21,22,23,24]
 (zw 25
 (zg QzC []
 .ret)
 .skip)))
 (.reg QzB [15,16]))))))
 (zg zqh_8 []
 .ret))))⟩
abbrev Ye:Nat:=20
abbrev Qbd:Nat:=21
def zqj_0:AT:=mkt 0x914700d0
def zqj_1:AT:=mkt 0x281d6185f41e2484328e0258
def strconv_Itoa:AF:=⟨5,[.tmp 2],
 (zg zqj_0 []
 (zg zqj_1 [3,4]
 .ret))⟩
abbrev QbB:Nat:=22
def zqk_0:AT:=mkt 0x603900d0
def zqk_1:AT:=mke 0xd8 (.rd (some 4) none (.eqn false (.t 3))
 .done)
def zqk_2:AT:=mkt 0x603900d0
def zqk_3:AT:=mkt 0x1205a677524e2f81b0e0034f2aaba23b328
def XA:AF:=⟨8,[.tmp 2],
 (zg zqk_0 []
 (.seq (zg zqk_1 [3]
 (zw 4
 (zg zqk_2 []
 .ret)
 .skip))
 (zg zqk_3 [5,6,7]
 .ret)))⟩
abbrev ZJ:Nat:=23
abbrev Qb3:Nat:=24
abbrev Qd3:Nat:=25
def zqn_0:AT:=mkt 0x163f8c2d7b188
def zqn_1:AT:=mkt 0x2375aa5f2ce1659167577aa453887d4aa1d11cf50202768a49e55421c22d53800ed7a565659c0a346169987841c7b4c314fa4aa8
def zqn_2:AT:=mkt 0x2f2b00d0
def zqn_3:AT:=mkt 0xc25500d8
def zqn_4:AT:=mkt 0x14e16ede277aad05aee389e08458
def zqn_5:AT:=mkt 0xc25500e0
def zqn_6:AT:=mkt 0x439c47f138580df7830a5eab5c0ab5539cca7e0ad1
def zqn_7:AT:=mkt 0x14e0641ed0dc07ad71d8efbd61d8ef2250bf169d1f0d1099d4c921cda91b9662fca1922
def zqn_8:AT:=mkt 0x2f2b00d0
def zqn_9:AT:=mkt 0x1c03388a214d918de04d1
def Qvk:AT:=mkt 0x1402515b2ac92b74b8481
def Qvj:AT:=mkt 0x47b200d0
def XC:AF:=⟨48,[.tmp 2],
 (zg zqn_0 []
 (.seq (zg zqn_1 [5,6,7,8,9,10,11,12,13,14,15,16,17]
 (zw 18
 (zg zqn_2 []
 .ret)
 .skip))
 (.seq (zg zqn_3 []
 (.block 0 (.loop (.seq (zg zqn_4 [19,20,21,22]
 (zw 23
 .skip
 (.exit 0)))
 (.seq (.block 1 (zg zqn_5 []
 (.block 2 (.loop (.seq (zg zqn_6 [26,27,28,29,30,31,32]
 (zw 33
 .skip
 (.exit 2)))
 (.seq (.block 3 (zg zqn_7 [36,37,38,39,40,41,42,43,44,45,46]
 (zw 47
 (zg zqn_8 []
 .ret)
 .skip)))
 (.reg zqn_9 [34,35])))))))
 (.reg Qvk [24,25]))))))
 (zg Qvj []
 .ret))))⟩
abbrev ZK:Nat:=26
def zqo_0:AT:=mkt 0x603900e0
def zqo_1:AT:=mkt 0x99ef695f14673474e41616edc73c96980328
def bytes_Split:AF:=⟨8,[.tmp 4],
 (zg zqo_0 []
 (zg zqo_1 [5,6,7]
 .ret))⟩
abbrev Qe7:Nat:=27
def zqp_0:AT:=mkt 0xc1c816b2550190
def zqp_1:AT:=mkt 0x8a7422d4b47bcc835b0590095ac79f007f380d28e0578
def zqp_2:AT:=mke 0x4b78118 (.rd (some 12) none (.eqi true (.t 11))
 .done)
def zqp_3:AT:=mke 0x13b4967874602a8 (.cl false (some 16) none (.c (.fn (.func 64) [] [])) [(.c (.str [65,116,111,105])),(.t 14),(.c (.int .i64 0)),(.c (.int .i64 0)),(.t 15)]
 (.rd (some 2) none (.mov (.t 13))
 (.rd (some 3) none (.mov (.t 16))
 .done)))
def zqp_4:AT:=mkt 0x1bd972255f11d9502c8
def strconv_Atoi:AF:=⟨18,[.tmp 2,.tmp 3],
 (zg zqp_0 []
 (zg zqp_1 [7,8,6,9,10]
 (.seq (zg zqp_2 [11]
 (zw 12
 (zg zqp_3 [13,14,15,16]
 .ret)
 .skip))
 (zg zqp_4 [17]
 .ret))))⟩
abbrev Y1:Nat:=28
def zqq_0:AT:=mkt 0x603900d0
def zqq_1:AT:=mkt 0xc25500d8
def zqq_2:AT:=mkt 0x1868d00e0
def zqq_3:AT:=mkt 0xdadc00e8
def zqq_4:AT:=mkt 0xc25500f0
def Qpq:AT:=mkt 0x293fb04c823bfce290368
def Qpp:AT:=mkt 0x56d48b3493edcc7f8ee3500458
def Qpo:AT:=mkt 0xc9599092f2a6dd31485b9
def Qpn:AT:=mkt 0x4dc4de9950a66672f8bd24a5fc9e5f98711
def Qpm:AT:=mkt 0x470f2bf6fb7863d2e6d6347dbb95e1d789b1
def QkJ:AT:=mkt 0x74cf5e78d03a1
def QkI:AT:=mkt 0x1fcec89f860a6c5502c8
def Qvi:AT:=mkt 0x20d0e18264c5dc083a9
def Qvh:AT:=mkt 0x5df0db53f33e21bf1e342303313a10073a
def Qvg:AT:=mkt 0x183e3127df73f793ff2094074a
def Qvf:AT:=mkt 0xc2550110
def Qve:AT:=mkt 0xc2550118
def Qvd:AT:=mkt 0xc2550120
def Qnl:AT:=mkt 0x88daccfcf443076e4872ec67d929e8d4f73b44047fcb4f17bc3877408c88afeb2a2d622eeaa301b5a
def Qnk:AT:=mkt 0x12066092f3fdb74dd007c2
def Qvc:AT:=mkt 0x2f514825d805d2
def Qnj:AT:=mkt 0xbea99e7326046eaa3009da
def Qni:AT:=mkt 0x4e88ae10ca7a8b59804a3fc35771097f0f40e0d15c8016fb
def Qnh:AT:=mkt 0x6f601490d9ba294bb80b33
def Qng:AT:=mkt 0x1c1facc225d8231a84f1fb58bc7e085b44e6ef3d6a07ba9b61d43
def Qnf:AT:=mkt 0x7f0f87bcd830bc442c0b83
def Qne:AT:=mkt 0x8232d6a446aba94bb80b93
def QkH:AT:=mkt 0x76078cd5c3e7ec2096d581f7ee9985845eb21eb7e166cdae9e5260df3c15422bc83f19630bd3546036a4
def QkG:AT:=mkt 0x1e0e82fb7fa611f83a00f0c
def Qnd:AT:=mkt 0x27c4f4e75b00b1c
def Qvb:AT:=mkt 0x9bbacb6009083d34f581324
def Qva:AT:=mkt 0x11deb205913fbcea6611c7cb6c59aaeb0e962f7b43c8a468b4aa96ff132482f44
def Qu9:AT:=mkt 0x2dcb56e4ed80b94
def Qad:AF:=⟨115,[.tmp 2],
 (zg zqq_0 []
 (zg zqq_1 []
 (zg zqq_2 []
 (zg zqq_3 []
 (.seq (zg zqq_4 []
 (.block 0 (.loop (.seq (zg Qpq [13,14,15]
 (zw 16
 .skip
 (.exit 0)))
 (.seq (.block 1 (zg Qpp [19,20,21,22]
 (zg Qpo [23,24,25]
 (zg Qpn [26,27,28,29]
 (zg Qpm [30,31,32,33,34,35]
 (.reg QkJ [36]))))))
 (.reg QkI [17,18]))))))
 (.seq (zg Qvi [37]
 (zw 38
 (zg Qvh [39,40]
 .ret)
 .skip))
 (zg Qvg [41,42]
 (zg Qvf []
 (zg Qve []
 (zg Qvd []
 (.seq (.block 2 (.loop (.seq (zg Qnl [43,44,45,46,47,48,49,50,51,52,53,54]
 (zw 55
 .skip
 (.exit 2)))
 (.block 3 (.reg Qnk [56,57])))))
 (zg Qvc [58]
 (.seq (.block 4 (.loop (.seq (zg Qnj [59,60,61]
 (zw 62
 .skip
 (.exit 4)))
 (.block 5 (.seq (zg Qni [63,64,65,66,67,68]
 (zw 69
 (zg Qnh [70,71]
 (.exit 5))
 .skip))
 (zg Qng [72,73,74,75,76,77,78,79]
 (zg Qnf [80,81]
 (zg Qne [82,83]
 (.seq (.block 6 (.loop (.seq (zg QkH [84,85,86,87,88,89,90,91,92,93,94,95]
 (zw 96
 .skip
 (.exit 6)))
 (.block 7 (.reg QkG [97,98])))))
 (.reg Qnd [99]))))))))))
 (.seq (zg Qvb [100,101,102]
 (zw 103
 (.reg Qva [104,105,106,107,108,109,110,111,112,113])
 .skip))
 (zg Qu9 [114]
 .ret)))))))))))))))⟩
abbrev Qew:Nat:=29
def zqr_0:AT:=mkt 0x2f2b00e0
def zqr_1:AT:=mkt 0x39dcee8ab06c5333f53e51d704a8
def bytes_Equal:AF:=⟨10,[.tmp 4],
 (zg zqr_0 []
 (zg zqr_1 [5,6,7,8,9]
 .ret))⟩
abbrev Qe9:Nat:=30
def zqs_0:AT:=mkt 0xc0d153a550190
def zqs_1:AT:=mkt 0xc25500e0
def zqs_2:AT:=mkt 0xc25500e8
def QzA:AT:=mkt 0x14829622cfcd91ab78330
def Qzz:AT:=mkt 0x715f48f12dceb79d6f794bda1ab8102e136284b3d80660
def Qzy:AT:=mkt 0x67fdd80cb789b9d5dd8b582dbc1eab7ae1edaab5b84f37c3367b5821715d3aeeaaf7f076bcf1521f7358a81221
def Qzx:AT:=mkt 0xc0d153a550190
def Qzw:AT:=mkt 0x22ffe8122c36613e590b323e2092685b5280293153df2e301312
def Qzv:AT:=mkt 0x1370b2bb0061cb638290
def zqs_9:AT:=mkt 0x812e22688280bcfcbc5ad0eae1e27b40cf71eb6a7bbed31001152
def Qu8:AT:=mkt 0x9cfe9fed590700792
def Qu7:AT:=mkt 0x1a27648f136af94e55a8a2cf3e0d996764c100fa2
def Xo:AF:=⟨57,[.tmp 2,.tmp 3],
 (zg zqs_0 []
 (zg zqs_1 []
 (.seq (zg zqs_2 []
 (.block 0 (.loop (.seq (zg QzA [6,7,8]
 (zw 9
 .skip
 (.exit 0)))
 (.seq (.block 1 (.seq (zg Qzz [12,13,14,15,16,17,18]
 (zw 19
 (.exit 1)
 .skip))
 (.seq (zg Qzy [20,21,22,23,24,25,26,27,28,29,30,31,32]
 (zw 33
 (zg Qzx []
 .ret)
 .skip))
 (.reg Qzw [34,35,36,37,38,39,40,41]))))
 (.reg Qzv [10,11]))))))
 (.seq (zg zqs_9 [42,43,44,45,46,47,48]
 (zw 49
 (.reg Qu8 [50,51])
 .skip))
 (zg Qu7 [52,53,54,55,56]
 .ret)))))⟩
abbrev Zo:Nat:=31
def zqt_0:AT:=mkt 0xc0d1a7b90190
def zqt_1:AT:=mkt 0x603900e0
def zqt_2:AT:=mkt 0xc25500e8
def Qzu:AT:=mkt 0x177907931acadcd378338
def Qzt:AT:=mkt 0x467ca92a94d20261dcff6d1535e09880731c95d7fa3c2df748a020b28e72fcfb1891d7247a6811e9
def Qzs:AT:=mkt 0xc0d1a7b90190
def Qzr:AT:=mkt 0x8648c573ea0ec10508660c628516c49feca0859
def Qzq:AT:=mkt 0x64d3605ae2266e6e74ab42d2176e7f3e411f87a5a7737f3c49feca0b09
def Qzp:AT:=mkt 0x321da5f0a3700a416ce2d00942
def QtD:AT:=mkt 0x876de1e27d73d3d1396334de85cda8dda6520de3d4e346e4ea8bbf4083b229022020274788054316c6781d5a
def Qnc:AT:=mke 0x45e2e965a04561d2d91232f4afd9f7d623c31d08ab5d38ca5581fdb (mkt 0x472a7d01bb9a850c4b7ca362ea65285083b2b614bd5362d581a2b)
def Qnb:AT:=mkt 0x12572912ee6d6096f807ca
def Qpl:AT:=mkt 0x1534f0051433cb638298
def Qu6:AT:=mkt 0x23ec9b1f7addf19840b5b
def XE:AF:=⟨76,[.tmp 2,.tmp 3],
 (zg zqt_0 []
 (zg zqt_1 []
 (.seq (zg zqt_2 []
 (.block 0 (.loop (.seq (zg Qzu [7,8,9]
 (zw 10
 .skip
 (.exit 0)))
 (.seq (.block 1 (.seq (zg Qzt [13,14,15,16,17,18,19,20,21,22,23,24,25]
 (zw 26
 (zg Qzs []
 .ret)
 .skip))
 (.seq (zg Qzr [27,28,29,30,31]
 (zw 32
 (.exit 1)
 .skip))
 (zg Qzq [33,34,35,36,37,38,39]
 (zg Qzp [40,41,42]
 (.block 2 (.loop (.seq (zg QtD [43,44,45,46,47,48,49,50,51,52,53,54,55]
 (zw 56
 .skip
 (.exit 2)))
 (.seq (.block 3 (.reg Qnc [59,60,61,62,63,64,65,66,67,68,69,70,71,72,73,74]))
 (.reg Qnb [57,58]))))))))))
 (.reg Qpl [11,12]))))))
 (zg Qu6 [75]
 .ret))))⟩
abbrev ZM:Nat:=32
def zqu_0:AT:=mkt 0xc0d1a7b901b0
def zqu_1:AT:=mke 0x98eaad022f6fcef9323aa76a6234d22e147815b300a293aef7dc23d290cd9 (mke 0x229969ae63c2ecf659deff35980cebc4a1982371c290370a71f435458d956a682d29 (mkt 0x229160e3993935d77f896f98c1d3cdc03ac7f13ee8879))
def zqu_2:AT:=mkt 0xc0d1a7b901b0
def zqu_3:AT:=mkt 0x60390100
def zqu_4:AT:=mkt 0xc2550108
def QtC:AT:=mkt 0x78a9b74439173ea2a4092a
def QtB:AT:=mkt 0x6a8198ab9508fd083fc99d5a400d5a
def QtA:AT:=mkt 0x8aba6f4041bd6247f08ad721382aa773236bd7dd89e62462ae0b820118a
def Qtz:AT:=mkt 0xd4812736eda2a4644074a
def zqu_9:AT:=mkt 0xc2550110
def Qna:AT:=mkt 0xb51dfeecbfe759fd6809c2
def Qm9:AT:=mkt 0x37b7b9311ae48737bf3ea34132484b8616f3
def Qm8:AT:=mkt 0x81503bf5f50ff91284e153c91b7d3fb0095b22059879d78e9df5e4901a2b
def Qm7:AT:=mkt 0x134a1d6e5b4a5948c807e2
def Qu5:AT:=mkt 0x6a797675bbb83a695f3511b3c65c869ac81463
def Xl:AF:=⟨80,[.tmp 6,.tmp 7],
 (zg zqu_0 []
 (.seq (zg zqu_1 [11,12,13,14,15,16,17,18,19,20,21,22,23,24,25,26,27,28,29,30,31,32,33,34,35]
 (zw 36
 (zg zqu_2 []
 .ret)
 .skip))
 (zg zqu_3 []
 (.seq (zg zqu_4 []
 (.block 0 (.loop (.seq (zg QtC [37,38,39]
 (zw 40
 .skip
 (.exit 0)))
 (.seq (.block 1 (zg QtB [43,44,45,46,47]
 (zw 48
 (.reg QtA [49,50,51,52,53,54,55])
 .skip)))
 (.reg Qtz [41,42]))))))
 (.seq (zg zqu_9 []
 (.block 2 (.loop (.seq (zg Qna [56,57,58]
 (zw 59
 .skip
 (.exit 2)))
 (.seq (.block 3 (zg Qm9 [62,63,64,65,66,67]
 (zw 68
 (.reg Qm8 [69,70,71,72,73,74,75])
 .skip)))
 (.reg Qm7 [60,61]))))))
 (zg Qu5 [76,77,78,79]
 .ret))))))⟩
abbrev Zf:Nat:=33
def zqv_0:AT:=mkt 0xa7e7d7c20d2dcb250
def zqv_1:AT:=mkt 0x289be6e1ebe5e8f40533aded2d8698e88a96c1f28a08adb47089fbcc7a8
def zqv_2:AT:=mkt 0x2f2b00e0
def zqv_3:AT:=mkt 0x27c258fd2fab1c130892da54bff43ef8aa7d7cb0bc438
def Qab:AF:=⟨19,[.tmp 4],
 (zg zqv_0 []
 (.seq (zg zqv_1 [5,6,7,8,9,10,11,12,13]
 (zw 14
 (zg zqv_2 []
 .ret)
 .skip))
 (zg zqv_3 [15,16,17,18]
 .ret)))⟩
abbrev QbC:Nat:=34
def zqw_0:AT:=mkt 0x215fecfdd7b190
def zqw_1:AT:=mkt 0x1b13c22f8e66317f4a245d56bd7b8ed237c971fd89ad706c51fbcc7b0
def zqw_2:AT:=mkt 0x2f2b00e0
def zqw_3:AT:=mkt 0xc25500e8
def zqw_4:AT:=mkt 0x11bc83561c26b2950b70f5c38440
def zqw_5:AT:=mkt 0x2d4470ef9634a3c823a452f436b9a417ace71cfbe4ab9
def zqw_6:AT:=mkt 0x2f2b00e0
def zqw_7:AT:=mkt 0x26df54e9da67cb6382e8
def zqw_8:AT:=mkt 0x47b200e0
def XD:AF:=⟨31,[.tmp 4],
 (zg zqw_0 []
 (.seq (zg zqw_1 [6,7,8,9,10,11,12,13,14]
 (zw 15
 (zg zqw_2 []
 .ret)
 .skip))
 (.seq (zg zqw_3 []
 (.block 0 (.loop (.seq (zg zqw_4 [16,17,18,19]
 (zw 20
 .skip
 (.exit 0)))
 (.seq (.block 1 (zg zqw_5 [23,24,25,26,27,28,29]
 (zw 30
 (zg zqw_6 []
 .ret)
 .skip)))
 (.reg zqw_7 [21,22]))))))
 (zg zqw_8 []
 .ret))))⟩
abbrev ZL:Nat:=35
end Go.Proofs.YtingdebioipemaaGreatDoor
