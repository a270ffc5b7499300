/- Places in a heap with a graph ahead. -/
import Derived.Test.YtfgccihafnjalaaGreatDoorJ8
open Nat renaming reduceEqDiff → rq, reduceAdd → rA, reduceLeDiff → rL, reduceLT → rT, zero_add → zA, le_refl → lR, zero_le → zL, add_zero → aZ
open List renaming length_cons → lC, length_nil → lN, take_succ_cons → tS, length_append → lA, nil_append → nA, cons_append → cA, append_assoc → aA, take_nil → tN, take_zero → tZ, length_map → lM
open Bool renaming not_false → nF, not_true → nT
namespace Go.Proofs.YtfgccihafnjalaaGreatDoor
open Go Go.Am Go.Re
set_option maxRecDepth 100000
theorem Qg9 {fmt:Int→List UInt8} {v0 v1 v2 v3 v4:Nat} {L:List Nd} {ex:List (Option Ob)} {x0 x1 x2 x3 x4 x5 y:Option Ob}:(kG fmt v0 v1 v2 v3 v4 L++x0::x1::x2::x3::x4::x5::y::ex)[11]?=some y:=rfl
theorem Qb6 {fmt:Int→List UInt8} {v0 v1 v2 v3 v4:Nat} {L:List Nd} {ex:List (Option Ob)} {x0 x1 x2 x3 x4 x5 y z:Option Ob}:(kG fmt v0 v1 v2 v3 v4 L++x0::x1::x2::x3::x4::x5::y::ex).set 11 z=kG fmt v0 v1 v2 v3 v4 L++x0::x1::x2::x3::x4::x5::z::ex:=rfl
theorem Qg8 {fmt:Int→List UInt8} {v0 v1 v2 v3 v4:Nat} {L:List Nd} {ex:List (Option Ob)} {x0 x1 x2 x3 x4 x5 x6 y:Option Ob}:(kG fmt v0 v1 v2 v3 v4 L++x0::x1::x2::x3::x4::x5::x6::y::ex)[12]?=some y:=rfl
theorem Qb5 {fmt:Int→List UInt8} {v0 v1 v2 v3 v4:Nat} {L:List Nd} {ex:List (Option Ob)} {x0 x1 x2 x3 x4 x5 x6 y z:Option Ob}:(kG fmt v0 v1 v2 v3 v4 L++x0::x1::x2::x3::x4::x5::x6::y::ex).set 12 z=kG fmt v0 v1 v2 v3 v4 L++x0::x1::x2::x3::x4::x5::x6::z::ex:=rfl
theorem Qg7 {fmt:Int→List UInt8} {v0 v1 v2 v3 v4:Nat} {L:List Nd} {ex:List (Option Ob)} {x0 x1 x2 x3 x4 x5 x6 x7 y:Option Ob}:(kG fmt v0 v1 v2 v3 v4 L++x0::x1::x2::x3::x4::x5::x6::x7::y::ex)[13]?=some y:=rfl
theorem Qb4 {fmt:Int→List UInt8} {v0 v1 v2 v3 v4:Nat} {L:List Nd} {ex:List (Option Ob)} {x0 x1 x2 x3 x4 x5 x6 x7 y z:Option Ob}:(kG fmt v0 v1 v2 v3 v4 L++x0::x1::x2::x3::x4::x5::x6::x7::y::ex).set 13 z=kG fmt v0 v1 v2 v3 v4 L++x0::x1::x2::x3::x4::x5::x6::x7::z::ex:=rfl
theorem Qfu {fmt:Int→List UInt8} {v0 v1 v2 v3 v4:Nat} {L:List Nd} {ex:List (Option Ob)} {x0 x1 x2 x3 x4 x5 x6 x7 x8 y:Option Ob}:(kG fmt v0 v1 v2 v3 v4 L++x0::x1::x2::x3::x4::x5::x6::x7::x8::y::ex)[14]?=some y:=rfl
theorem QaU {fmt:Int→List UInt8} {v0 v1 v2 v3 v4:Nat} {L:List Nd} {ex:List (Option Ob)} {x0 x1 x2 x3 x4 x5 x6 x7 x8 y z:Option Ob}:(kG fmt v0 v1 v2 v3 v4 L++x0::x1::x2::x3::x4::x5::x6::x7::x8::y::ex).set 14 z=kG fmt v0 v1 v2 v3 v4 L++x0::x1::x2::x3::x4::x5::x6::x7::x8::z::ex:=rfl
theorem Qft {fmt:Int→List UInt8} {v0 v1 v2 v3 v4:Nat} {L:List Nd} {ex:List (Option Ob)} {x0 x1 x2 x3 x4 x5 x6 x7 x8 x9 y:Option Ob}:(kG fmt v0 v1 v2 v3 v4 L++x0::x1::x2::x3::x4::x5::x6::x7::x8::x9::y::ex)[15]?=some y:=rfl
theorem Qbu {fmt:Int→List UInt8} {v0 v1 v2 v3 v4:Nat} {L:List Nd} {ex:List (Option Ob)} {x0 x1 x2 x3 x4 x5 x6 x7 x8 x9 y z:Option Ob}:(kG fmt v0 v1 v2 v3 v4 L++x0::x1::x2::x3::x4::x5::x6::x7::x8::x9::y::ex).set 15 z=kG fmt v0 v1 v2 v3 v4 L++x0::x1::x2::x3::x4::x5::x6::x7::x8::x9::z::ex:=rfl
theorem Qdq {fmt:Int→List UInt8} {v0 v1 v2 v3 v4:Nat} {L:List Nd} {ex:List (Option Ob)} {x0 x1 x2 x3 x4 x5 x6 x7 x8 x9 x10 y:Option Ob}:(kG fmt v0 v1 v2 v3 v4 L++x0::x1::x2::x3::x4::x5::x6::x7::x8::x9::x10::y::ex)[16]?=some y:=rfl
theorem QaT {fmt:Int→List UInt8} {v0 v1 v2 v3 v4:Nat} {L:List Nd} {ex:List (Option Ob)} {x0 x1 x2 x3 x4 x5 x6 x7 x8 x9 x10 y z:Option Ob}:(kG fmt v0 v1 v2 v3 v4 L++x0::x1::x2::x3::x4::x5::x6::x7::x8::x9::x10::y::ex).set 16 z=kG fmt v0 v1 v2 v3 v4 L++x0::x1::x2::x3::x4::x5::x6::x7::x8::x9::x10::z::ex:=rfl
theorem QaJ {fmt:Int→List UInt8} {v0 v1 v2 v3 v4:Nat} {L:List Nd} {ex:List (Option Ob)} {x0 x1 x2 x3 x4 x5 x6 x7 x8 x9 x10 x11 y:Option Ob}:(kG fmt v0 v1 v2 v3 v4 L++x0::x1::x2::x3::x4::x5::x6::x7::x8::x9::x10::x11::y::ex)[17]?=some y:=rfl
theorem ZM {fmt:Int→List UInt8} {v0 v1 v2 v3 v4:Nat} {L:List Nd} {ex:List (Option Ob)} {x0 x1 x2 x3 x4 x5 x6 x7 x8 x9 x10 x11 y z:Option Ob}:(kG fmt v0 v1 v2 v3 v4 L++x0::x1::x2::x3::x4::x5::x6::x7::x8::x9::x10::x11::y::ex).set 17 z=kG fmt v0 v1 v2 v3 v4 L++x0::x1::x2::x3::x4::x5::x6::x7::x8::x9::x10::x11::z::ex:=rfl
theorem QaI {fmt:Int→List UInt8} {v0 v1 v2 v3 v4:Nat} {L:List Nd} {ex:List (Option Ob)} {x0 x1 x2 x3 x4 x5 x6 x7 x8 x9 x10 x11 x12 y:Option Ob}:(kG fmt v0 v1 v2 v3 v4 L++x0::x1::x2::x3::x4::x5::x6::x7::x8::x9::x10::x11::x12::y::ex)[18]?=some y:=rfl
theorem ZL {fmt:Int→List UInt8} {v0 v1 v2 v3 v4:Nat} {L:List Nd} {ex:List (Option Ob)} {x0 x1 x2 x3 x4 x5 x6 x7 x8 x9 x10 x11 x12 y z:Option Ob}:(kG fmt v0 v1 v2 v3 v4 L++x0::x1::x2::x3::x4::x5::x6::x7::x8::x9::x10::x11::x12::y::ex).set 18 z=kG fmt v0 v1 v2 v3 v4 L++x0::x1::x2::x3::x4::x5::x6::x7::x8::x9::x10::x11::x12::z::ex:=rfl
theorem Qg6 {fmt:Int→List UInt8} {v0 v1 v2 v3 v4:Nat} {L:List Nd} {ex:List (Option Ob)} {x0 x1 x2 x3 x4 x5 x6 x7 x8 x9 x10 x11 x12 x13 y:Option Ob}:(kG fmt v0 v1 v2 v3 v4 L++x0::x1::x2::x3::x4::x5::x6::x7::x8::x9::x10::x11::x12::x13::y::ex)[19]?=some y:=rfl
theorem Qbt {fmt:Int→List UInt8} {v0 v1 v2 v3 v4:Nat} {L:List Nd} {ex:List (Option Ob)} {x0 x1 x2 x3 x4 x5 x6 x7 x8 x9 x10 x11 x12 x13 y z:Option Ob}:(kG fmt v0 v1 v2 v3 v4 L++x0::x1::x2::x3::x4::x5::x6::x7::x8::x9::x10::x11::x12::x13::y::ex).set 19 z=kG fmt v0 v1 v2 v3 v4 L++x0::x1::x2::x3::x4::x5::x6::x7::x8::x9::x10::x11::x12::x13::z::ex:=rfl
theorem Qd0 {fmt:Int→List UInt8} {v0 v1 v2 v3 v4:Nat} {L:List Nd} {ex:List (Option Ob)} {x0 x1 x2 x3 x4 x5 x6 x7 x8 x9 x10 x11 x12 x13 x14 y:Option Ob}:(kG fmt v0 v1 v2 v3 v4 L++x0::x1::x2::x3::x4::x5::x6::x7::x8::x9::x10::x11::x12::x13::x14::y::ex)[20]?=some y:=rfl
theorem Qbs {fmt:Int→List UInt8} {v0 v1 v2 v3 v4:Nat} {L:List Nd} {ex:List (Option Ob)} {x0 x1 x2 x3 x4 x5 x6 x7 x8 x9 x10 x11 x12 x13 x14 y z:Option Ob}:(kG fmt v0 v1 v2 v3 v4 L++x0::x1::x2::x3::x4::x5::x6::x7::x8::x9::x10::x11::x12::x13::x14::y::ex).set 20 z=kG fmt v0 v1 v2 v3 v4 L++x0::x1::x2::x3::x4::x5::x6::x7::x8::x9::x10::x11::x12::x13::x14::z::ex:=rfl
theorem QbK {fmt:Int→List UInt8} {v0 v1 v2 v3 v4:Nat} {L:List Nd} {ex:List (Option Ob)} {x0 x1 x2 x3 x4 x5 x6 x7 x8 x9 x10 x11 x12 x13 x14 x15 y:Option Ob}:(kG fmt v0 v1 v2 v3 v4 L++x0::x1::x2::x3::x4::x5::x6::x7::x8::x9::x10::x11::x12::x13::x14::x15::y::ex)[21]?=some y:=rfl
theorem Qb3 {fmt:Int→List UInt8} {v0 v1 v2 v3 v4:Nat} {L:List Nd} {ex:List (Option Ob)} {x0 x1 x2 x3 x4 x5 x6 x7 x8 x9 x10 x11 x12 x13 x14 x15 y z:Option Ob}:(kG fmt v0 v1 v2 v3 v4 L++x0::x1::x2::x3::x4::x5::x6::x7::x8::x9::x10::x11::x12::x13::x14::x15::y::ex).set 21 z=kG fmt v0 v1 v2 v3 v4 L++x0::x1::x2::x3::x4::x5::x6::x7::x8::x9::x10::x11::x12::x13::x14::x15::z::ex:=rfl
theorem Qc0 {fmt:Int→List UInt8} {v0 v1 v2 v3 v4:Nat} {L:List Nd} {ex:List (Option Ob)} {x0 x1 x2 x3 x4 x5 x6 x7 x8 x9 x10 x11 x12 x13 x14 x15 x16 y:Option Ob}:(kG fmt v0 v1 v2 v3 v4 L++x0::x1::x2::x3::x4::x5::x6::x7::x8::x9::x10::x11::x12::x13::x14::x15::x16::y::ex)[22]?=some y:=rfl
theorem Qal {fmt:Int→List UInt8} {v0 v1 v2 v3 v4:Nat} {L:List Nd} {ex:List (Option Ob)} {x0 x1 x2 x3 x4 x5 x6 x7 x8 x9 x10 x11 x12 x13 x14 x15 x16 y z:Option Ob}:(kG fmt v0 v1 v2 v3 v4 L++x0::x1::x2::x3::x4::x5::x6::x7::x8::x9::x10::x11::x12::x13::x14::x15::x16::y::ex).set 22 z=kG fmt v0 v1 v2 v3 v4 L++x0::x1::x2::x3::x4::x5::x6::x7::x8::x9::x10::x11::x12::x13::x14::x15::x16::z::ex:=rfl
theorem Qci {fmt:Int→List UInt8} {v0 v1 v2 v3 v4:Nat} {L:List Nd} {ex:List (Option Ob)} {x0 x1 x2 x3 x4 x5 x6 x7 x8 x9 x10 x11 x12 x13 x14 x15 x16 x17 y:Option Ob}:(kG fmt v0 v1 v2 v3 v4 L++x0::x1::x2::x3::x4::x5::x6::x7::x8::x9::x10::x11::x12::x13::x14::x15::x16::x17::y::ex)[23]?=some y:=rfl
theorem Qbr {fmt:Int→List UInt8} {v0 v1 v2 v3 v4:Nat} {L:List Nd} {ex:List (Option Ob)} {x0 x1 x2 x3 x4 x5 x6 x7 x8 x9 x10 x11 x12 x13 x14 x15 x16 x17 y z:Option Ob}:(kG fmt v0 v1 v2 v3 v4 L++x0::x1::x2::x3::x4::x5::x6::x7::x8::x9::x10::x11::x12::x13::x14::x15::x16::x17::y::ex).set 23 z=kG fmt v0 v1 v2 v3 v4 L++x0::x1::x2::x3::x4::x5::x6::x7::x8::x9::x10::x11::x12::x13::x14::x15::x16::x17::z::ex:=rfl
theorem Z1 {fmt:Int→List UInt8} {v0 v1 v2 v3 v4:Nat} {L:List Nd} {ex:List (Option Ob)} {x0 x1 x2 x3 x4 x5 x6 x7 x8 x9 x10 x11 x12 x13 x14 x15 x16 x17 x18 y:Option Ob}:(kG fmt v0 v1 v2 v3 v4 L++x0::x1::x2::x3::x4::x5::x6::x7::x8::x9::x10::x11::x12::x13::x14::x15::x16::x17::x18::y::ex)[24]?=some y:=rfl
theorem YZ {fmt:Int→List UInt8} {v0 v1 v2 v3 v4:Nat} {L:List Nd} {ex:List (Option Ob)} {x0 x1 x2 x3 x4 x5 x6 x7 x8 x9 x10 x11 x12 x13 x14 x15 x16 x17 x18 y z:Option Ob}:(kG fmt v0 v1 v2 v3 v4 L++x0::x1::x2::x3::x4::x5::x6::x7::x8::x9::x10::x11::x12::x13::x14::x15::x16::x17::x18::y::ex).set 24 z=kG fmt v0 v1 v2 v3 v4 L++x0::x1::x2::x3::x4::x5::x6::x7::x8::x9::x10::x11::x12::x13::x14::x15::x16::x17::x18::z::ex:=rfl
theorem QdZ {fmt:Int→List UInt8} {v0 v1 v2 v3 v4:Nat} {L:List Nd} {ex:List (Option Ob)} {x0 x1 x2 x3 x4 x5 x6 x7 x8 x9 x10 x11 x12 x13 x14 x15 x16 x17 x18 x19 y:Option Ob}:(kG fmt v0 v1 v2 v3 v4 L++x0::x1::x2::x3::x4::x5::x6::x7::x8::x9::x10::x11::x12::x13::x14::x15::x16::x17::x18::x19::y::ex)[25]?=some y:=rfl
theorem Qbq {fmt:Int→List UInt8} {v0 v1 v2 v3 v4:Nat} {L:List Nd} {ex:List (Option Ob)} {x0 x1 x2 x3 x4 x5 x6 x7 x8 x9 x10 x11 x12 x13 x14 x15 x16 x17 x18 x19 y z:Option Ob}:(kG fmt v0 v1 v2 v3 v4 L++x0::x1::x2::x3::x4::x5::x6::x7::x8::x9::x10::x11::x12::x13::x14::x15::x16::x17::x18::x19::y::ex).set 25 z=kG fmt v0 v1 v2 v3 v4 L++x0::x1::x2::x3::x4::x5::x6::x7::x8::x9::x10::x11::x12::x13::x14::x15::x16::x17::x18::x19::z::ex:=rfl
theorem QeK {fmt:Int→List UInt8} {v0 v1 v2 v3 v4:Nat} {L:List Nd} {ex:List (Option Ob)} {x0 x1 x2 x3 x4 x5 x6 x7 x8 x9 x10 x11 x12 x13 x14 x15 x16 x17 x18 x19 x20 y:Option Ob}:(kG fmt v0 v1 v2 v3 v4 L++x0::x1::x2::x3::x4::x5::x6::x7::x8::x9::x10::x11::x12::x13::x14::x15::x16::x17::x18::x19::x20::y::ex)[26]?=some y:=rfl
theorem QaS {fmt:Int→List UInt8} {v0 v1 v2 v3 v4:Nat} {L:List Nd} {ex:List (Option Ob)} {x0 x1 x2 x3 x4 x5 x6 x7 x8 x9 x10 x11 x12 x13 x14 x15 x16 x17 x18 x19 x20 y z:Option Ob}:(kG fmt v0 v1 v2 v3 v4 L++x0::x1::x2::x3::x4::x5::x6::x7::x8::x9::x10::x11::x12::x13::x14::x15::x16::x17::x18::x19::x20::y::ex).set 26 z=kG fmt v0 v1 v2 v3 v4 L++x0::x1::x2::x3::x4::x5::x6::x7::x8::x9::x10::x11::x12::x13::x14::x15::x16::x17::x18::x19::x20::z::ex:=rfl
theorem Qg5 {fmt:Int→List UInt8} {v0 v1 v2 v3 v4:Nat} {L:List Nd} {ex:List (Option Ob)} {x0 x1 x2 x3 x4 x5 x6 x7 x8 x9 x10 x11 x12 x13 x14 x15 x16 x17 x18 x19 x20 x21 y:Option Ob}:(kG fmt v0 v1 v2 v3 v4 L++x0::x1::x2::x3::x4::x5::x6::x7::x8::x9::x10::x11::x12::x13::x14::x15::x16::x17::x18::x19::x20::x21::y::ex)[27]?=some y:=rfl
theorem Qb2 {fmt:Int→List UInt8} {v0 v1 v2 v3 v4:Nat} {L:List Nd} {ex:List (Option Ob)} {x0 x1 x2 x3 x4 x5 x6 x7 x8 x9 x10 x11 x12 x13 x14 x15 x16 x17 x18 x19 x20 x21 y z:Option Ob}:(kG fmt v0 v1 v2 v3 v4 L++x0::x1::x2::x3::x4::x5::x6::x7::x8::x9::x10::x11::x12::x13::x14::x15::x16::x17::x18::x19::x20::x21::y::ex).set 27 z=kG fmt v0 v1 v2 v3 v4 L++x0::x1::x2::x3::x4::x5::x6::x7::x8::x9::x10::x11::x12::x13::x14::x15::x16::x17::x18::x19::x20::x21::z::ex:=rfl
theorem Qg4 {fmt:Int→List UInt8} {v0 v1 v2 v3 v4:Nat} {L:List Nd} {ex:List (Option Ob)} {x0 x1 x2 x3 x4 x5 x6 x7 x8 x9 x10 x11 x12 x13 x14 x15 x16 x17 x18 x19 x20 x21 x22 y:Option Ob}:(kG fmt v0 v1 v2 v3 v4 L++x0::x1::x2::x3::x4::x5::x6::x7::x8::x9::x10::x11::x12::x13::x14::x15::x16::x17::x18::x19::x20::x21::x22::y::ex)[28]?=some y:=rfl
theorem Qb1 {fmt:Int→List UInt8} {v0 v1 v2 v3 v4:Nat} {L:List Nd} {ex:List (Option Ob)} {x0 x1 x2 x3 x4 x5 x6 x7 x8 x9 x10 x11 x12 x13 x14 x15 x16 x17 x18 x19 x20 x21 x22 y z:Option Ob}:(kG fmt v0 v1 v2 v3 v4 L++x0::x1::x2::x3::x4::x5::x6::x7::x8::x9::x10::x11::x12::x13::x14::x15::x16::x17::x18::x19::x20::x21::x22::y::ex).set 28 z=kG fmt v0 v1 v2 v3 v4 L++x0::x1::x2::x3::x4::x5::x6::x7::x8::x9::x10::x11::x12::x13::x14::x15::x16::x17::x18::x19::x20::x21::x22::z::ex:=rfl
variable {P:Program} {G:Nat→Option V}
def tmN:Tm→Nd
 | .c n=>co n
 | .s b=>sy b
def hoV (L:List Nd) (H:List (Pr × Tm)):List (V × V):=H.map fun p=>(prV p.1,.int .i64 (Z3 L (tmN p.2)))
def AllH (L:List Nd) (H:List (Pr × Tm)):Prop:=∀ p∈H,Hs L (tmN p.2)
theorem AllH.ext {L L':List Nd} {H:List (Pr × Tm)} (h:AllH L H) (e:Ext L L'):AllH L' H:=fun p hp=>(h p hp).ext e
theorem Quu {L L':List Nd} {H:List (Pr × Tm)} (h:AllH L H) (e:Ext L L'):hoV L H=hoV L' H:=List.map_congr_left fun p hp=>by rw [Qdr (h p hp) e]
theorem Qnb (L:List Nd) (H:List (Pr × Tm)) (x:Pr):Qlu [Kd.i,Kd.i,Kd.i] (V.agg [.int .i64 x.v,.int .u8 x.k,.int .i64 x.n]) (hoV L H)=(Re.get H x).map fun t=>.int .i64 (Z3 L (tmN t)):=by
 show Qlu [Kd.i,Kd.i,Kd.i] (prV x) (hoV L H)=_
 unfold Qlu hoV Re.get
 induction H with
 | nil=>rfl
 | cons p H ih =>
   simp only [List.map_cons,List.find?_cons,Qmm]
   by_cases h:x=p.1
   ·subst h; simp
   ·have h':¬ p.1=x:=fun e=>h e.symm
    simp only [h, h', decide_false]
    exact ih
theorem QCn (L:List Nd) (H:List (Pr × Tm)) (x:Pr):Qb7 true [Kd.i,Kd.i,Kd.i] (V.agg [.int .i64 x.v,.int .u8 x.k,.int .i64 x.n]) (hoV L H)=True:=by
 refine eq_true ⟨⟨rfl,rfl⟩,fun p hp=>?_⟩
 simp only [hoV,List.mem_map] at hp
 obtain ⟨b,_,rfl⟩:=hp
 exact ⟨rfl,rfl⟩
theorem Qzj (L:List Nd) (H:List (Pr × Tm)) (x:Pr) (t:Tm) (h:Re.get H x=none):Qm5 [Kd.i,Kd.i,Kd.i] (V.agg [.int .i64 x.v,.int .u8 x.k,.int .i64 x.n]) (.int .i64 (Z3 L (tmN t))) (hoV L H)=hoV L (H++[(x,t)]):=by
 show Qm5 [Kd.i,Kd.i,Kd.i] (prV x) _ (hoV L H)=_
 have h':=Qq5.1 h
 clear h
 unfold hoV
 induction H with
 | nil=>rfl
 | cons p H ih =>
   simp only [List.map_cons,Qm5,Qmm,cA]
   have hp:¬ x=p.1:=fun e=>h' p (by simp) e.symm
   simp only [hp,decide_false,Bool.false_eq_true,if_false]
   rw [ih fun q hq=>h' q (by simp [hq])]
theorem AllH.snoc {L:List Nd} {H:List (Pr × Tm)} (h:AllH L H) {x:Pr} {t:Tm} (ht:Hs L (tmN t)):AllH L (H++[(x,t)]):=fun p hp=>by
 rcases List.mem_append.1 hp with hp | hp
 ·exact h p hp
 ·simp at hp; subst hp; exact ht
def frX (v0 wg wb wu wp wm wh:Nat) (y:Nat→Option Ob) (up:List (Pr × Pr)) (L:List Nd) (H:List (Pr × Tm)) (b:Int):List (Option Ob):=[some (.arr wg 41 [.ptr 1 v0 0]),y 6,y 7,y 8,y 9,y 10,y 11,y 12,y 13,y 14,y 15,some (.arr wb 2 [.int .i64 b]),y 17,y 18,some (.map wu (upV up)),some (.arr wp 96 [.mp 19 wu]),y 21,some (.map wm (hoV L H)),some (.arr wh 101 [.mp 22 wm]),y 24]
theorem QuV (hT:Qw P tab) (F:Fmt P G) {v0 v1 v2 v3 v4 wg wb wu wp wm wh t:Nat} {y:Nat→Option Ob} {up:List (Pr × Pr)} {L:List Nd} {H:List (Pr × Tm)} {b:Int} (hf:Fst up) (hA:AllH L H) (hb:0≤b∧b≤2199023255552) (hL:L.length≤100000) (e:Pr) :
 C P G 0 Z0 [prV e, .ptr 20 wp 0, .ptr 23 wh 0, .ptr 5 wg 0, .ptr 16 wb 0] ⟨t, kG F.fmt v0 v1 v2 v3 v4 L ++ frX v0 wg wb wu wp wm wh y up L H b⟩ fun v σ => ∃ tm L' t' v2' v3' v4', Re.get (ofT up (H, b) e).1 (Qj up e) = some tm ∧ Ext L L' ∧ L'.length ≤ L.length + 1 ∧ AllH L' (ofT up (H, b) e).1 ∧ Hs L' (tmN tm) ∧ t ≤ t' ∧ v = .int .i64 (Z3 L' (tmN tm)) ∧ σ = ⟨t', kG F.fmt v0 v1 v2' v3' v4' L' ++ frX v0 wg wb wu wp wm wh y up L' (ofT up (H, b) e).1 (ofT up (H, b) e).2⟩ := by
 refine Ym 25 (zL _) (Xk hT QO (by simp [Yu]) (Qu 1000 ?_))
 simp only [prV,prC,frX]
 simp -implicitDefEqProofs (disch:=omega) only [go_sem,↓reduceIte,reduceCtorEq,rA,rq,zA,lR,Yu,QyU,QyT,QyS,QyR,QyQ,QyP,QyO,Qel,Qd0,QdZ,false_implies,and_true,lC,lN,cA,nA,aA,lA,tS,tN,List.drop_zero]
 refine call hT Qo (Qmu hT hf e (k:=19) (w:=wu) (base:=0) (by simp only [Zk,lC]; omega) rfl (zL _)) 1000 fun v σ hv=>?_
 obtain ⟨rfl,t1,ht1,rfl⟩:=hv
 have hkk:=fun (L:List Nd)=>QCn L H (Qj up e)
 have hnl:Qe (V.agg [.int .i64 (Qj up e).v,.int .u8 (Qj up e).k,.int .i64 (Qj up e).n])=true:=rfl
 simp only [prV,prC]
 cases hg:Re.get H (Qj up e) with
 | some tm =>
   have ho:=Qnb L H (Qj up e)
   rw [hg,Option.map_some] at ho
   have hof:ofT up (H,b) e=(H,b):=by unfold ofT; rw [hg]; rfl
   have hmem:Hs L (tmN tm):=by
    unfold Re.get at hg
    cases hfi:H.find? fun x=>decide (x.1=Qj up e) with
    | none=>rw [hfi] at hg; simp at hg
    | some p=>rw [hfi] at hg; simp at hg; subst hg; exact hA p (List.mem_of_find?_eq_some hfi)
   simp -implicitDefEqProofs (disch:=omega) only [go_sem,↓reduceIte,reduceCtorEq,rA,rq,rL,rT,zA,nT,nF,lR,zL,Option.isSome_some,Option.getD_some,Qel,Qc0,Qci,QeK,QaS,false_implies,true_implies,true_and,and_true,nT,nF,lC,lN,cA,nA,aA,lA,tS,tZ,tN,List.drop_succ_cons,List.drop_zero,List.drop_nil,ho,hkk]
   rw [hof]
   first | exact ⟨tm,L,_,v2,v3,v4,hg,Ext.refl L,by omega,hA,hmem,by omega,rfl,rfl,rfl⟩ | exact ⟨tm,L,_,v2,v3,v4,hg,Ext.refl L,by omega,hA,hmem,by omega,rfl,rfl⟩
 | none =>
   have ho:=Qnb L H (Qj up e)
   rw [hg,Option.map_none] at ho
   have hof:ofT up (H,b) e=(H++[(Qj up e,.s b)],b+1):=by unfold ofT; rw [hg]; rfl
   have hg2:Re.get (H++[(Qj up e,Tm.s b)]) (Qj up e)=some (.s b):=by rw [Qfj hg,if_pos rfl]
   have e1:IntKind.i64.wrap (b+1)=b+1:=Qtx (by omega)
   simp -implicitDefEqProofs (disch:=omega) only [go_sem,↓reduceIte,reduceCtorEq,rA,rq,rT,zA,nF,lR,zL,Option.isSome_none,Option.getD_none,Qel,QlH,Qdq,Qc0,Qci,QeK,QaS,false_implies,true_implies,and_true,nF,lC,lN,cA,nA,aA,lA,tS,tZ,tN,List.drop_succ_cons,List.drop_zero,List.drop_nil,ho,hkk]
   repeat' (first | with_reducible refine And.intro ?_ ?_)
   all_goals (
    refine call hT Qhy (k_Sym hT F (n:=b) (by unfold i64; omega) hb.1 (by omega)) 1000 fun v σ hv=>?_
    obtain ⟨L2,t2,w2,w3,w4,x1,x2,x3,x4,rfl,rfl⟩:=hv
    have hput:=Qzj L2 H (Qj up e) (.s b) hg
    have ho2:=Qnb L2 (H++[(Qj up e,Tm.s b)]) (Qj up e)
    have hk2:=QCn L2 (H++[(Qj up e,Tm.s b)]) (Qj up e)
    rw [hg2,Option.map_some] at ho2
    simp only [tmN] at hput ho2
    rw [Quu hA x1]
    simp -implicitDefEqProofs (disch:=omega) only [go_sem,↓reduceIte,reduceCtorEq,rA,rq,rL,zA,nF,lR,zL,Option.getD_some,Qel,Qdq,QaT,Qc0,Qal,Qci,QeK,false_implies,true_implies,true_and,and_true,nF,lC,lN,cA,nA,lA,tS,tZ,tN,List.drop_succ_cons,List.drop_zero,List.drop_nil,hkk,hk2,hput,ho2,hnl,e1]
    rw [hof]
    exact ⟨.s b,L2,_,w2,w3,w4,hg2,x1,x3,(hA.ext x1).snoc x2,x2,by omega,rfl,rfl,rfl⟩)
theorem QtZ (r:Nat→Nat) (L:List Nd) (b:Int) (k:Nat):QcQ r (Qew L b k)=Qew L b k:=by
 unfold Qew
 induction (List.range 32) with
 | nil=>rfl
 | cons x l ih=>rw [List.map_cons,QcQ,ih]; rfl
theorem QrO (r:Nat→Nat) (L:List Nd) (b:Int) (k:Nat):QcQ r (Zi L b k)=Zi L b k:=by
 unfold Zi
 induction (List.range k) with
 | nil=>rfl
 | cons x l ih=>rw [List.map_cons,QcQ,ih]; rfl
theorem QqP (r:Nat→Nat):∀ a b:List V,QcQ r (a++b)=QcQ r a++QcQ r b
 | [],b=>by simp [QcQ]
 | x::a,b=>by rw [cA,QcQ,QcQ,QqP r a b]; rfl
theorem fn_nl (m:Nat):Qc (fnC m)=true:=by simp [fnC,Qc,Qe]
theorem Qzo (r:Nat→Nat) (m:Nat):QcQ r (fnC m)=fnC m:=Xs _ (fn_nl m)
theorem Qzn (k m:Nat):XG k (fnC m)=true:=QI _ (fn_nl m)
theorem QwL (hT:Qw P tab) (F:Fmt P G) {v0 v1 v2 v3 v4 t:Nat} {L:List Nd} (m:Nat) (hm:m≤4) (params next:Int) (hn:next≤1099511627776) (hL:L.length≤10000) (ex:List (Option Ob)) :
 C P G 0 QeJ [.ptr 1 v0 0,.agg (fnC m),.int .i64 params,.int .i64 next] ⟨t,kG F.fmt v0 v1 v2 v3 v4 L++ex⟩ fun v σ=>∃ L' t' v2' v3' v4' ws,Ext L L'∧L'.length≤L.length+60∧AllR L' (max 0 next) 32∧AllS L' (max 0 next) (QbB m params) ∧
   v = .tup [.agg (stC L' (max 0 next) 32 (.sl (10 + ex.length) ws 0 1 (QbB m params) none) (decide (m = 0))), .int .i64 (max 0 next + 30 + (QbB m params : Nat))] ∧ σ = ⟨t', kG F.fmt v0 v1 v2' v3' v4' L' ++ (ex ++ [none, none, none, none, none, some (.arr ws 44 (Zi L' (max 0 next) (QbB m params)))])⟩ := by
 refine Qqt [0,1,2,3,4] (QCV hT F (v0:=v0) (v1:=v1) (v2:=v2) (v3:=v3) (v4:=v4) m hm params next hn hL) rfl (by decide) ?_ ?_ ?_ (zL _) ?_ ?_ fun v σ hv=>?_
 ·simp [QpR,kG]
 ·simp [Qoi,kG,Ob.under,XG,V.under,Ob.ren,QcQ,V.ren,rOf,Qbp,Qfi,QcZ,QhQ,Qgd,-List.all_eq_true,Qc2]
 ·simp [QCZ]
 ·simp [XG,V.under,Qzn,kG]
 ·simp only [QcQ,V.ren,Qzo]
  simp [rOf]
 ·obtain ⟨L', t', v2', v3', v4', ws, h1, h2, h3, h4, rfl, rfl⟩ := hv
  refine ⟨by simp [kG], L', t', v2', v3', v4', ws, h1, h2, h3, h4, ?_, ?_⟩
  ·simp only [V.ren,QcQ,stC,QqP,QtZ]
   simp [rOf,kG]
   omega
  ·simp [QdQ,QcO,kG,Ob.ren,QcQ,V.ren,rOf,Qbp,Qfi,QcZ,QrO]
theorem ZP (o z:List (Option Ob)):Xr o (o++z):=by
 have:=ZQ o.length (o++z)
 rwa [List.take_left'] at this
 rfl
theorem Qpp (hT:Qw P tab) {o:List (Option Ob)} {wv w15:Nat} {vars:Int} {cnt:Nat} {L:List Nd} {b:Int} {k j w14:Nat} {sure:Bool} (h6:o[6]?=some (some (.arr wv 3 [.int .i64 vars]))) (h15:o[15]?=some (some (.arr w15 47 (stC L b k (.sl j w14 0 1 cnt none) sure)))) (l:List Pr) :
 QmB P G 0 (.fn (.func QcV) [] [.ptr 6 wv 0,.ptr 15 w15 0]) o (fun p=>!Zq vars cnt p) l:=fun t p hp=>by
 have g6:∀ l:List (Option Ob),(o++l)[6]?=some (some (.arr wv 3 [.int .i64 vars])):=fun l=>by rw [List.getElem?_append_left (List.getElem?_eq_some_iff.1 h6).1,h6]
 have g15:∀ l:List (Option Ob),(o++l)[15]?=some (some (.arr w15 47 (stC L b k (.sl j w14 0 1 cnt none) sure))):=fun l=>by rw [List.getElem?_append_left (List.getElem?_eq_some_iff.1 h15).1,h15]
 have hth:=QCR (P:=P) (G:=G) hT p vars cnt
 have htk:∀ l:List (Option Ob),List.take o.length (o++l)=o:=fun l=>by simp
 have hl:=Qf2 L b k (.sl j w14 0 1 cnt none) sure
 simp only [prV,prC] at hth ⊢
 refine CV.of hT QcM (Ym o.length (zL _) (Xk hT QcM (by simp [Yv]) (Qu 1000 ?_)))
 simp -implicitDefEqProofs (disch:=omega) only [go_sem,↓reduceIte,reduceCtorEq,rA,rq,rL,zA,lR,Yv,Qy1,Qy0,ga0,lC,lN,List.getElem?_cons_zero,tS,tN,g6,g15,hl]
 refine Q3 hT QfJ hth rfl 1000 ?_
 simp -implicitDefEqProofs (disch:=omega) only [go_sem,↓reduceIte,reduceCtorEq,rq,zA,lA,lC,lN,htk]
 exact ⟨by omega,_,by omega,rfl⟩
def frA (v0 wg wb wu wp w21:Nat) (y:Nat→Option Ob) (up:List (Pr × Pr)) (ps:List Pr) (cells:List V) (b:Int):List (Option Ob):=[some (.arr wg 41 [.ptr 1 v0 0]),y 6,y 7,y 8,y 9,y 10,y 11,y 12,y 13,y 14,y 15,some (.arr wb 2 [.int .i64 b]),y 17,y 18,some (.map wu (upV up)),some (.arr wp 96 [.mp 19 wu]),some (.arr w21 64 (fl prC ps++cells))]
theorem QuB (hT:Qw P tab) {fmt:Int→List UInt8} {v0 v1 v2 v3 v4 wg wb wu wp w21 w8 kW wW t i:Nat} {y:Nat→Option Ob} {up:List (Pr × Pr)} {ps:List Pr} {cells:List V} {b:Int} {L:List Nd} {x:Pr} (hf:Fst up) (hl:ps.length≤1000) (hx:ps[i]?=some x) :
 W P G 157 0 (AC.seq (AC.reg Qb8 [])   (AC.seq (AC.cond (Arg.t 52)   AC.skip   (AC.exit 0))   (AC.seq (AC.block 1 (AC.seq (AC.reg Qcz [53,54])   (AC.reg Qcy [55,56,57,58,59,60,61,62])))   (AC.reg Qcx [63])))) [(1,.sl 21 w21 0 3 ps.length none),(6,.ptr 5 wg 0),(12,.ptr 8 w8 0),(15,.ptr 16 wb 0),(16,.ptr kW wW 0),(17,.ptr 20 wp 0),(49,.sl 21 w21 0 3 ps.length none),(50,.int .i64 ((ps.length:Nat):Int)),(51,.int .i64 ((i:Nat):Int))] ⟨t,kG fmt v0 v1 v2 v3 v4 L++frA v0 wg wb wu wp w21 y up ps cells b⟩
   (Qhz (fun fr σ => ∃ fr' σ', Shift G 157 0 fr σ fr' σ' ∧ QF fr' [(1, .sl 21 w21 0 3 ps.length none), (6, .ptr 5 wg 0), (12, .ptr 8 w8 0), (15, .ptr 16 wb 0), (16, .ptr kW wW 0), (17, .ptr 20 wp 0), (49, .sl 21 w21 0 3 ps.length none), (50, .int .i64 ((ps.length : Nat) : Int)), (51, .int .i64 ((i + 1 : Nat) : Int))] ∧ ∃ t', σ' = ⟨t', kG fmt v0 v1 v2 v3 v4 L ++ frA v0 wg wb wu wp w21 y (joinL up (vE x.v) (pE x)) ps cells b⟩) fun e fr σ => False) := by
 have hlt:=(List.getElem?_eq_some_iff.1 hx).1
 have hD:=QaC hx cells
 have hsz:i * 3+3≤ps.length * 3+cells.length:=by omega
 have e2:=QcJ hlt (by omega)
 simp only [frA] at hD ⊢
 refine Qu 12 ?_
 simp -implicitDefEqProofs (disch:=omega) only [go_sem,Qf,↓reduceIte,rq,zA,decide_true,Qb8,Qcz,Qcy,Qcx,and_true,decide_true,hlt]
 iterate 10 (try (refine Qb 4 ?_; simp -implicitDefEqProofs (disch:=omega) only [go_sem,↓reduceIte,reduceCtorEq,rA,rq,rL,zA,aZ,nF,lR,zL,QN,Qel,Qd0,QbK,Qc0,Qal,false_implies,true_implies,and_true,nF,lC,lN,cA,nA,aA,lA,tS,tZ,tN,List.drop_succ_cons,List.drop_zero,List.drop_nil,hD,hsz]))
 refine call hT XN (c_join hT hf (vE x.v) (pE x) (k:=19) (w:=wu) (base:=0) (by simp only [Zk,lC]; omega) (zL _) rfl) 12 fun v σ hv=>?_
 obtain ⟨rfl,t1,ht1,rfl⟩:=hv
 simp -implicitDefEqProofs (disch:=omega) only [go_sem,↓reduceIte,rq,Qbt]
 iterate 10 (try (refine Qb 4 ?_; simp -implicitDefEqProofs (disch:=omega) only [go_sem,Qf,↓reduceIte,reduceCtorEq,rA,rq,rL,rT,Nat.reduceSub,Nat.reduceMul,Int.reduceToNat,Int.reduceLE,Int.reduceLT,Int.reduceEq,Int.reduceNe,Nat.succ_ne_zero,zA,aZ,Nat.mul_one,Nat.one_mul,Nat.zero_mul,decide_true,decide_false,nT,nF,lR,zL,ge_iff_le,gt_iff_lt,Nat.reduceBEq,Nat.reduceBNe,beq_self_eq_true,bne_self_eq_false,Option.isSome_some,Option.isSome_none,Option.getD_some,Option.getD_none,X9,QN,relate_Fresh,Qdf,Qde,Qdd,Qdc,Qdb,Qda,Qb8,Qcz,Qcy,Qcx,Zp,Zo,YU,Zh,Zg,Zf,Ze,Zd,Zc,Zb,Za,YT,Yj,Ys,Yr,Yq,Zn,Xp,XD,XC,XB,XA,Xz,Xy,Xx,ZJ,Qel,QlH,Qge,Qog,Qha,QnJ,Qfv,Qof,QeM,QlG,Qc1,Qgf,Qbv,Qg9,Qb6,Qg8,Qb5,Qg7,Qb4,Qfu,QaU,Qft,Qbu,Qdq,QaT,QaJ,ZM,QaI,ZL,Qg6,Qbt,Qd0,Qbs,QbK,Qb3,Qc0,Qal,Qci,Qbr,Z1,YZ,QdZ,Qbq,QeK,QaS,Qg5,Qb2,Qg4,Qb1,Zk,Qbw,false_implies,true_implies,true_and,and_true,not_true_eq_false,not_false_eq_true,Int.reduceBEq,nT,nF,decide_true,decide_false,lC,lN,cA,nA,aA,lA,List.getElem?_cons_zero,List.getElem?_cons_succ,List.set_cons_zero,List.set_cons_succ,tS,tZ,tN,List.drop_succ_cons,List.drop_zero,List.drop_nil,e2]))
 refine ⟨_,_,Shift.drop (o':=kG fmt v0 v1 v2 v3 v4 L++frA v0 wg wb wu wp w21 y (joinL up (vE x.v) (pE x)) ps cells b) (t':=t1) ?_ (lR _) (zL _),?_,t1,?_⟩
 ·exact ZP (kG fmt v0 v1 v2 v3 v4 L++frA v0 wg wb wu wp w21 y (joinL up (vE x.v) (pE x)) ps cells b) [_]
 ·simp only [QF]; simp -implicitDefEqProofs (disch:=omega) only [go_sem,↓reduceIte,rq,and_true,e2]
 ·rfl
def frH (wm wh:Nat) (L:List Nd) (H:List (Pr × Tm)):List (Option Ob):=[some (.map wm (hoV L H)),some (.arr wh 101 [.mp 22 wm])]
theorem QuA (hT:Qw P tab) (F:Fmt P G) {v0 v1 v2 v3 v4 wg wb wu wp wm wh w21 w8 kW wW t i:Nat} {y:Nat→Option Ob} {up:List (Pr × Pr)} {ps:List Pr} {cells:List V} {b:Int} {L:List Nd} {H:List (Pr × Tm)} {x:Pr} (hf:Fst up) (hl:ps.length≤1000) (hx:ps[i]?=some x) (hL:L.length≤100000) (hA:AllH L H) (hxn:i64 x.n) :
 W P G 157 0 (AC.seq (AC.reg YU [])   (AC.seq (AC.cond (Arg.t 68)   AC.skip   (AC.exit 2))   (AC.seq (AC.block 3 (AC.seq (AC.reg Zh [69,70])   (AC.seq (AC.reg Zg [71,72,73,74,75])   (AC.seq (AC.reg Zf [77,78,79,76,80,81,24])   (AC.seq (AC.reg Ze [82,83,84,85,86,87,88])   (AC.cond (Arg.t 89)   (AC.reg Zd [90,91,92,93,94,95,96])   AC.skip))))))   (AC.reg Zc [97])))) [(1,.sl 21 w21 0 3 ps.length none),(6,.ptr 5 wg 0),(12,.ptr 8 w8 0),(15,.ptr 16 wb 0),(16,.ptr kW wW 0),(17,.ptr 20 wp 0),(20,.ptr 23 wh 0),(65,.sl 21 w21 0 3 ps.length none),(66,.int .i64 ((ps.length:Nat):Int)),(67,.int .i64 ((i:Nat):Int))] ⟨t,kG F.fmt v0 v1 v2 v3 v4 L++(frA v0 wg wb wu wp w21 y up ps cells b++frH wm wh L H)⟩
   (Qhz (fun fr σ => ∃ fr' σ', Shift G 157 0 fr σ fr' σ' ∧ QF fr' [(1, .sl 21 w21 0 3 ps.length none), (6, .ptr 5 wg 0), (12, .ptr 8 w8 0), (15, .ptr 16 wb 0), (16, .ptr kW wW 0), (17, .ptr 20 wp 0), (20, .ptr 23 wh 0), (65, .sl 21 w21 0 3 ps.length none), (66, .int .i64 ((ps.length : Nat) : Int)), (67, .int .i64 ((i + 1 : Nat) : Int))] ∧ ∃ L' t' v2' v3' v4', Ext L L' ∧ L'.length ≤ L.length + 1 ∧ AllH L' (QaD up H x) ∧ σ' = ⟨t', kG F.fmt v0 v1 v2' v3' v4' L' ++ (frA v0 wg wb wu wp w21 y up ps cells b ++ frH wm wh L' (QaD up H x))⟩) fun e fr σ => False) := by
 have hlt:=(List.getElem?_eq_some_iff.1 hx).1
 have hD:=QaC hx cells
 have hsz:i * 3+3≤ps.length * 3+cells.length:=by omega
 have e2:=QcJ hlt (by omega)
 simp only [frA,frH,cA,nA] at hD ⊢
 refine Qu 12 ?_
 simp -implicitDefEqProofs (disch:=omega) only [go_sem,Qf,↓reduceIte,rq,zA,decide_true,YU,Zh,Zg,Zf,Ze,Zd,Zc,and_true,decide_true,hlt]
 iterate 10 (try (refine Qb 4 ?_; simp -implicitDefEqProofs (disch:=omega) only [go_sem,↓reduceIte,reduceCtorEq,rA,rq,rL,zA,aZ,nF,lR,zL,QN,Qel,Qd0,QbK,Z1,YZ,false_implies,true_implies,and_true,nF,lC,lN,cA,nA,aA,lA,tS,tZ,tN,List.drop_succ_cons,List.drop_zero,List.drop_nil,hD,hsz]))
 refine call hT Qo (Qmu hT hf (vE x.v) (k:=19) (w:=wu) (base:=0) (by simp only [Zk,lC]; omega) rfl (zL _)) 12 fun v σ hv=>?_
 obtain ⟨rfl,t1,ht1,rfl⟩:=hv
 have hkk:=fun (L:List Nd)=>QCn L H (Qj up (vE x.v))
 have ho:=Qnb L H (Qj up (vE x.v))
 have hnl:Qe (V.agg [.int .i64 (Qj up (vE x.v)).v,.int .u8 (Qj up (vE x.v)).k,.int .i64 (Qj up (vE x.v)).n])=true:=rfl
 simp only [prV,prC]
 simp -implicitDefEqProofs (disch:=omega) only [go_sem,↓reduceIte,reduceCtorEq,rA,rq,rT,zA,nF,lR,zL,Qel,Qc0,Qci,QdZ,Qbq,false_implies,true_implies,and_true,nF,lC,lN,cA,nA,aA,lA,tS,tZ,tN,List.drop_succ_cons,List.drop_zero,List.drop_nil,hkk]
 cases hg:Re.get H (Qj up (vE x.v)) with
 | some tm =>
   rw [hg,Option.map_some] at ho
   have hst:QaD up H x=H:=by unfold QaD; rw [hg]; simp
   rw [hst]
   iterate 10 (try (refine Qb 4 ?_; simp -implicitDefEqProofs (disch:=omega) only [go_sem,↓reduceIte,rq,nT,Option.isSome_some,Option.getD_some,nT,ho]))
   iterate 10 (try (refine Qb 4 ?_; simp -implicitDefEqProofs (disch:=omega) only [go_sem,Qf,↓reduceIte,reduceCtorEq,rA,rq,rL,rT,Nat.reduceSub,Nat.reduceMul,Int.reduceToNat,Int.reduceLE,Int.reduceLT,Int.reduceEq,Int.reduceNe,Nat.succ_ne_zero,zA,aZ,Nat.mul_one,Nat.one_mul,Nat.zero_mul,decide_true,decide_false,nT,nF,lR,zL,ge_iff_le,gt_iff_lt,Nat.reduceBEq,Nat.reduceBNe,beq_self_eq_true,bne_self_eq_false,Option.isSome_some,Option.isSome_none,Option.getD_some,Option.getD_none,X9,QN,relate_Fresh,Qdf,Qde,Qdd,Qdc,Qdb,Qda,Qb8,Qcz,Qcy,Qcx,Zp,Zo,YU,Zh,Zg,Zf,Ze,Zd,Zc,Zb,Za,YT,Yj,Ys,Yr,Yq,Zn,Xp,XD,XC,XB,XA,Xz,Xy,Xx,ZJ,Qel,QlH,Qge,Qog,Qha,QnJ,Qfv,Qof,QeM,QlG,Qc1,Qgf,Qbv,Qg9,Qb6,Qg8,Qb5,Qg7,Qb4,Qfu,QaU,Qft,Qbu,Qdq,QaT,QaJ,ZM,QaI,ZL,Qg6,Qbt,Qd0,Qbs,QbK,Qb3,Qc0,Qal,Qci,Qbr,Z1,YZ,QdZ,Qbq,QeK,QaS,Qg5,Qb2,Qg4,Qb1,Zk,Qbw,false_implies,true_implies,true_and,and_true,not_true_eq_false,not_false_eq_true,Int.reduceBEq,nT,nF,decide_true,decide_false,lC,lN,cA,nA,aA,lA,List.getElem?_cons_zero,List.getElem?_cons_succ,List.set_cons_zero,List.set_cons_succ,tS,tZ,tN,List.drop_succ_cons,List.drop_zero,List.drop_nil,ho,hkk,e2]))
   refine ⟨_,_,Shift.drop (o':=kG F.fmt v0 v1 v2 v3 v4 L++(frA v0 wg wb wu wp w21 y up ps cells b++frH wm wh L H)) (ZP (kG F.fmt v0 v1 v2 v3 v4 L++(frA v0 wg wb wu wp w21 y up ps cells b++frH wm wh L H)) [_,_]) (lR _) (zL _),?_,L,_,v2,v3,v4,Ext.refl L,by omega,hA,rfl⟩
   simp only [QF]; simp -implicitDefEqProofs (disch:=omega) only [go_sem,↓reduceIte,rq,and_true,e2]
 | none =>
   rw [hg,Option.map_none] at ho
   by_cases h3:x.k=3
   ·have h3':(x.k==3)=true:=by simp [h3]
    have hst:QaD up H x=H++[(Qj up (vE x.v),.c x.n)]:=by unfold QaD; rw [hg]; simp [h3]
    rw [hst]
    iterate 10 (try (refine Qb 4 ?_; simp -implicitDefEqProofs (disch:=omega) only [go_sem,↓reduceIte,rA,rq,rL,zA,aZ,nF,lR,Option.isSome_none,Option.getD_none,QlH,Z1,true_implies,and_true,nF,lC,lN,ho,h3']))
    have hput:=fun (L:List Nd)=>Qzj L H (Qj up (vE x.v)) (.c x.n) hg
    simp only [tmN] at hput
    obtain ⟨H2,hH2⟩:∃ H2,H2=H++[(Qj up (vE x.v),Tm.c x.n)]:=⟨_,rfl⟩
    simp only [← hH2] at hput ⊢
    repeat' (first | with_reducible refine And.intro ?_ ?_ | (refine Qb 12 ?_; simp -implicitDefEqProofs (disch:=omega) only [go_sem,↓reduceIte,reduceCtorEq,rA,rq,zA,lR,Qci,QdZ,false_implies,true_implies,and_true,lC,lN,tS,tN,List.drop_zero]))
    all_goals
     refine call hT QbV (QpU hT F (L:=L) hxn (by omega)) 12 fun v σ hv=>?_
     obtain ⟨L2,t2,w2,w3,w4,x1,x2,x3,x4,rfl,rfl⟩:=hv
     have hk2:=Quu hA x1
     have hkk2:=hkk L2
     simp -implicitDefEqProofs (disch:=omega) only [go_sem,↓reduceIte,reduceCtorEq,rA,rq,zA,nF,lR,zL,Qc0,Qal,Qci,QdZ,false_implies,true_implies,and_true,nF,lC,lN,tS,tN,List.drop_zero,hkk,hput,hnl,hk2]
     iterate 10 (try (refine Qb 4 ?_; simp -implicitDefEqProofs (disch:=omega) only [go_sem,Qf,↓reduceIte,reduceCtorEq,rA,rq,rL,rT,Nat.reduceSub,Nat.reduceMul,Int.reduceToNat,Int.reduceLE,Int.reduceLT,Int.reduceEq,Int.reduceNe,Nat.succ_ne_zero,zA,aZ,Nat.mul_one,Nat.one_mul,Nat.zero_mul,decide_true,decide_false,nT,nF,lR,zL,ge_iff_le,gt_iff_lt,Nat.reduceBEq,Nat.reduceBNe,beq_self_eq_true,bne_self_eq_false,Option.isSome_some,Option.isSome_none,Option.getD_some,Option.getD_none,X9,QN,relate_Fresh,Qdf,Qde,Qdd,Qdc,Qdb,Qda,Qb8,Qcz,Qcy,Qcx,Zp,Zo,YU,Zh,Zg,Zf,Ze,Zd,Zc,Zb,Za,YT,Yj,Ys,Yr,Yq,Zn,Xp,XD,XC,XB,XA,Xz,Xy,Xx,ZJ,Qel,QlH,Qge,Qog,Qha,QnJ,Qfv,Qof,QeM,QlG,Qc1,Qgf,Qbv,Qg9,Qb6,Qg8,Qb5,Qg7,Qb4,Qfu,QaU,Qft,Qbu,Qdq,QaT,QaJ,ZM,QaI,ZL,Qg6,Qbt,Qd0,Qbs,QbK,Qb3,Qc0,Qal,Qci,Qbr,Z1,YZ,QdZ,Qbq,QeK,QaS,Qg5,Qb2,Qg4,Qb1,Zk,Qbw,false_implies,true_implies,true_and,and_true,not_true_eq_false,not_false_eq_true,Int.reduceBEq,nT,nF,decide_true,decide_false,lC,lN,cA,nA,aA,lA,List.getElem?_cons_zero,List.getElem?_cons_succ,List.set_cons_zero,List.set_cons_succ,tS,tZ,tN,List.drop_succ_cons,List.drop_zero,List.drop_nil,hkk,hput,hnl,hk2]))
     refine ⟨_,_,Shift.drop (o':=kG F.fmt v0 v1 w2 w3 w4 L2++(frA v0 wg wb wu wp w21 y up ps cells b++frH wm wh L2 H2)) (ZP (kG F.fmt v0 v1 w2 w3 w4 L2++(frA v0 wg wb wu wp w21 y up ps cells b++frH wm wh L2 H2)) [_,_]) (lR _) (zL _),?_,L2,_,w2,w3,w4,x1,x3,hH2▸(hA.ext x1).snoc x2,rfl⟩
     simp only [QF]; simp -implicitDefEqProofs (disch:=omega) only [go_sem,↓reduceIte,rq,and_true,e2]
   ·have h3':(x.k==3)=false:=by simpa using h3
    have hst:QaD up H x=H:=by unfold QaD; rw [hg]; simp [h3]
    rw [hst]
    iterate 10 (try (refine Qb 4 ?_; simp -implicitDefEqProofs (disch:=omega) only [go_sem,↓reduceIte,rA,rq,rL,zA,aZ,nF,Option.isSome_none,Option.getD_none,Z1,true_implies,and_true,nF,lC,lN,ho,h3']))
    iterate 10 (try (refine Qb 4 ?_; simp -implicitDefEqProofs (disch := omega) only [go_sem, Qf, ↓reduceIte, reduceCtorEq, rA, rq, rL, rT, Nat.reduceSub, Nat.reduceMul, Int.reduceToNat, Int.reduceLE, Int.reduceLT, Int.reduceEq, Int.reduceNe, Nat.succ_ne_zero, zA, aZ, Nat.mul_one, Nat.one_mul, Nat.zero_mul, decide_true, decide_false, nT, nF, lR, zL, ge_iff_le, gt_iff_lt, Nat.reduceBEq, Nat.reduceBNe, beq_self_eq_true, bne_self_eq_false, Option.isSome_some, Option.isSome_none, Option.getD_some, Option.getD_none, X9, QN, relate_Fresh, Qdf, Qde, Qdd, Qdc, Qdb, Qda, Qb8, Qcz, Qcy, Qcx, Zp, Zo, YU, Zh, Zg, Zf, Ze, Zd, Zc, Zb, Za, YT, Yj, Ys, Yr, Yq, Zn, Xp, XD, XC, XB, XA, Xz, Xy, Xx, ZJ, Qel, QlH, Qge, Qog, Qha, QnJ, Qfv, Qof, QeM, QlG, Qc1, Qgf, Qbv, Qg9, Qb6, Qg8, Qb5, Qg7, Qb4, Qfu, QaU, Qft, Qbu, Qdq, QaT, QaJ, ZM, QaI, ZL, Qg6, Qbt, Qd0, Qbs, QbK, Qb3, Qc0, Qal, Qci, Qbr, Z1, YZ, QdZ, Qbq, QeK, QaS, Qg5, Qb2, Qg4, Qb1, Zk, Qbw, false_implies, true_implies, true_and, and_true, not_true_eq_false, not_false_eq_true, Int.reduceBEq, nT, nF, decide_true, decide_false, lC, lN, cA, nA, aA, lA, List.getElem?_cons_zero, List.getElem?_cons_succ, List.set_cons_zero, List.set_cons_succ, tS, tZ, tN, List.drop_succ_cons, List.drop_zero, List.drop_nil, ho, hkk, h3', e2]))
    refine ⟨_,_,Shift.drop (o':=kG F.fmt v0 v1 v2 v3 v4 L++(frA v0 wg wb wu wp w21 y up ps cells b++frH wm wh L H)) (ZP (kG F.fmt v0 v1 v2 v3 v4 L++(frA v0 wg wb wu wp w21 y up ps cells b++frH wm wh L H)) [_,_]) (lR _) (zL _),?_,L,_,v2,v3,v4,Ext.refl L,by omega,hA,rfl⟩
    simp only [QF]; simp -implicitDefEqProofs (disch:=omega) only [go_sem,↓reduceIte,rq,and_true,e2]
def Qax (L:List Nd) (up:List (Pr × Pr)) (H:List (Pr × Tm)) (e:Pr):Int:=match Re.get H (Qj up e) with | some t=>Z3 L (tmN t) | none=>0
theorem XW {L:List Nd} {up:List (Pr × Pr)} {H:List (Pr × Tm)} {e:Pr} {t:Tm} (h:Re.get H (Qj up e)=some t):Qax L up H e=Z3 L (tmN t):=by unfold Qax; rw [h]
theorem get_mem {H:List (Pr × Tm)} {r:Pr} {t:Tm} (h:Re.get H r=some t):∃ p∈H,p.2=t:=by
 unfold Re.get at h
 cases hfi:H.find? fun x=>decide (x.1=r) with
 | none=>rw [hfi] at h; simp at h
 | some p=>rw [hfi] at h; simp at h; exact ⟨p,List.mem_of_find?_eq_some hfi,h⟩
theorem AllH.get {L:List Nd} {H:List (Pr × Tm)} (hA:AllH L H) {r:Pr} {t:Tm} (h:Re.get H r=some t):Hs L (tmN t):=by
 obtain ⟨p,hp,rfl⟩:=get_mem h; exact hA p hp
theorem QkE {L L':List Nd} {up:List (Pr × Pr)} {S:List (Pr × Tm) × Int} {e:Pr} (hA:AllH L S.1) (hE:Ext L L') (h:(Re.get S.1 (Qj up e)).isSome) (f:Pr):Qax L' up (ofT up S f).1 e=Qax L up S.1 e:=by
 obtain ⟨t,ht⟩:=Option.isSome_iff_exists.1 h
 rw [XW ht,XW (QqT up S f ht),Qdr (hA.get ht) hE]
def Yy (L:List Nd) (up:List (Pr × Pr)) (H:List (Pr × Tm)) (i n:Nat):List V:=(List.range n).map fun j:Nat=>.int .i64 (if j<i then Qax L up H (vE ((j:Nat):Int)) else 0)
theorem Qjv (L:List Nd) (up:List (Pr × Pr)) (H:List (Pr × Tm)) (i n:Nat):(Yy L up H i n).length=n:=by simp [Yy]
theorem QtB (L:List Nd) (up:List (Pr × Pr)) (H:List (Pr × Tm)) (i n:Nat) (j:Nat) (h:j<(Yy L up H i n).length):(Yy L up H i n)[j]=.int .i64 (if j<i then Qax L up H (vE ((j:Nat):Int)) else 0):=by
 have h':j<((List.range n).map fun j:Nat=>V.int .i64 (if j<i then Qax L up H (vE ((j:Nat):Int)) else 0)).length:=h
 show ((List.range n).map fun j:Nat=>V.int .i64 (if j<i then Qax L up H (vE ((j:Nat):Int)) else 0))[j]'h'=_
 rw [List.getElem_map,List.getElem_range]
theorem QqB {L L':List Nd} {up:List (Pr × Pr)} {S:List (Pr × Tm) × Int} {i n:Nat} (hi:i<n) (hA:AllH L S.1) (hE:Ext L L') (h:∀ j,j<i→(Re.get S.1 (Qj up (vE ((j:Nat):Int)))).isSome) (f:Pr) {x:Int} (hx:x=Qax L' up (ofT up S f).1 (vE ((i:Nat):Int))) :
 (Yy L up S.1 i n).take i++V.int .i64 x::(Yy L up S.1 i n).drop (i+1)=Yy L' up (ofT up S f).1 (i+1) n:=by
 have e:(Yy L up S.1 i n).take i++V.int .i64 x::(Yy L up S.1 i n).drop (i+1)=(Yy L up S.1 i n).set i (.int .i64 x):=by
  rw [List.set_eq_take_append_cons_drop,if_pos (by rw [Qjv]; exact hi)]
 rw [e]
 refine List.ext_getElem (by simp [Yy]) fun j h1 h2=>?_
 rw [List.length_set,Qjv] at h1
 rw [List.getElem_set]
 rw [QtB,QtB]
 by_cases hj:i=j
 ·subst hj; rw [if_pos rfl,if_pos (by omega),hx]
 ·rw [if_neg hj]
  by_cases hlt:j<i
  ·rw [if_pos hlt,if_pos (by omega),QkE hA hE (h j hlt) f]
  ·rw [if_neg hlt,if_neg (by omega)]
def yW (y:Nat→Option Ob) (kV kW:Nat) (vr wo:Option Ob):Nat→Option Ob:=fun i=>if i=kV then vr else if i=kW then wo else y i
abbrev ofV (wp wh wg wb:Nat):V:=.fn (.func Z0) [] [.ptr 20 wp 0,.ptr 23 wh 0,.ptr 5 wg 0,.ptr 16 wb 0]
theorem Quz (hT:Qw P tab) (F:Fmt P G) {v0 v1 v2 v3 v4 wg wb wu wp wm wh w21 nps w8 kV kW wV wW t i n:Nat} {y:Nat→Option Ob} {rest:List V} {up:List (Pr × Pr)} {b:Int} {L:List Nd} {H:List (Pr × Tm)}
 (hk:kV=17∧kW=18∨kV=18∧kW=17) (hf:Fst up) (hA:AllH L H) (hb:0≤b∧b≤2199023255552) (hL:L.length≤100000) (hi:i<n) (hn:n≤10) (hr:rest.length=35) (hall:∀ j,j<i→(Re.get H (Qj up (vE ((j:Nat):Int)))).isSome) :
 W P G 157 0 (AC.seq (AC.reg Yj [])   (AC.seq (AC.cond (Arg.t 107)   AC.skip   (AC.exit 4))   (AC.seq (AC.block 5 (AC.seq (AC.reg Ys [108])   (AC.reg Yr [109,110,111,112,113,114,115,116])))   (AC.reg Yq [117])))) [(1,.sl 21 w21 0 3 nps none),(12,.ptr 8 w8 0),(15,.ptr 16 wb 0),(16,.ptr kW wW 0),(26,ofV wp wh wg wb),(105,.int .i64 ((n:Nat):Int)),(106,.int .i64 ((i:Nat):Int))] ⟨t,kG F.fmt v0 v1 v2 v3 v4 L++frX v0 wg wb wu wp wm wh (yW y kV kW (some (.arr wV 44 (Yy L up H i n))) (some (.arr wW 49 (.sl kV wV 0 1 n none::rest)))) up L H b⟩
   (Qhz (fun fr σ => ∃ fr' σ', Shift G 157 0 fr σ fr' σ' ∧ QF fr' [(1, .sl 21 w21 0 3 nps none), (12, .ptr 8 w8 0), (15, .ptr 16 wb 0), (16, .ptr kW wW 0), (26, ofV wp wh wg wb), (105, .int .i64 ((n : Nat) : Int)), (106, .int .i64 ((i + 1 : Nat) : Int))] ∧ ∃ L' t' v2' v3' v4', Ext L L' ∧ L'.length ≤ L.length + 1 ∧ AllH L' (ofT up (H, b) (vE ((i : Nat) : Int))).1 ∧ σ' = ⟨t', kG F.fmt v0 v1 v2' v3' v4' L' ++ frX v0 wg wb wu wp wm wh (yW y kV kW (some (.arr wV 44 (Yy L' up (ofT up (H, b) (vE ((i : Nat) : Int))).1 (i + 1) n))) (some (.arr wW 49 (.sl kV wV 0 1 n none :: rest)))) up L' (ofT up (H, b) (vE ((i : Nat) : Int))).1 (ofT up (H, b) (vE ((i : Nat) : Int))).2⟩) fun e fr σ => False) := by
 have e2:IntKind.i64.wrap ((i:Int)+1)=((i+1:Nat):Int):=QcJ hi (by omega)
 have hvl:=Qjv L up H i n
 have hof:=fun (y:Nat→Option Ob) (t:Nat)=>QuV (P:=P) (G:=G) hT F (v0:=v0) (v1:=v1) (v2:=v2) (v3:=v3) (v4:=v4) (wg:=wg) (wb:=wb) (wu:=wu) (wp:=wp) (wm:=wm) (wh:=wh) (t:=t) (y:=y) (b:=b) hf hA hb hL (vE ((i:Nat):Int))
 rcases hk with ⟨rfl,rfl⟩ | ⟨rfl,rfl⟩
 ·have hof':=hof (yW y 17 18 (some (.arr wV 44 (Yy L up H i n))) (some (.arr wW 49 (.sl 17 wV 0 1 n none::rest))))
  simp only [frX,yW,rq,if_true,if_false,prV,prC] at hof' ⊢
  refine Qu 12 ?_
  simp -implicitDefEqProofs (disch:=omega) only [go_sem,↓reduceIte,rq,decide_true,Yj,Ys,Yr,Yq,decide_true,hi]
  iterate 10 (try (refine Qb 4 ?_; simp -implicitDefEqProofs (disch:=omega) only [go_sem,↓reduceIte,rA,rq,rL,zA,aZ,QaI,true_implies,and_true,lC,lN,cA,nA,tZ,List.drop_succ_cons,List.drop_zero,hr]))
  repeat' (first | with_reducible refine And.intro ?_ ?_ | (refine Qb 12 ?_; simp -implicitDefEqProofs (disch:=omega) only [go_sem,Qf,↓reduceIte,reduceCtorEq,rA,rq,rL,rT,Nat.reduceSub,Nat.reduceMul,Int.reduceToNat,Int.reduceLE,Int.reduceLT,Int.reduceEq,Int.reduceNe,Nat.succ_ne_zero,zA,aZ,Nat.mul_one,Nat.one_mul,Nat.zero_mul,decide_true,decide_false,nT,nF,lR,zL,ge_iff_le,gt_iff_lt,Nat.reduceBEq,Nat.reduceBNe,beq_self_eq_true,bne_self_eq_false,Option.isSome_some,Option.isSome_none,Option.getD_some,Option.getD_none,X9,QN,relate_Fresh,Qdf,Qde,Qdd,Qdc,Qdb,Qda,Qb8,Qcz,Qcy,Qcx,Zp,Zo,YU,Zh,Zg,Zf,Ze,Zd,Zc,Zb,Za,YT,Yj,Ys,Yr,Yq,Zn,Xp,XD,XC,XB,XA,Xz,Xy,Xx,ZJ,Qel,QlH,Qge,Qog,Qha,QnJ,Qfv,Qof,QeM,QlG,Qc1,Qgf,Qbv,Qg9,Qb6,Qg8,Qb5,Qg7,Qb4,Qfu,QaU,Qft,Qbu,Qdq,QaT,QaJ,ZM,QaI,ZL,Qg6,Qbt,Qd0,Qbs,QbK,Qb3,Qc0,Qal,Qci,Qbr,Z1,YZ,QdZ,Qbq,QeK,QaS,Qg5,Qb2,Qg4,Qb1,Zk,Qbw,false_implies,true_implies,true_and,and_true,not_true_eq_false,not_false_eq_true,Int.reduceBEq,nT,nF,decide_true,decide_false,lC,lN,cA,nA,aA,lA,List.getElem?_cons_zero,List.getElem?_cons_succ,List.set_cons_zero,List.set_cons_succ,tS,tZ,tN,List.drop_succ_cons,List.drop_zero,List.drop_nil,hi,hr]))
  all_goals
   refine CV.use 12 (CV.of hT QO (hof' t)) fun v σ hv=>?_
   obtain ⟨tm,L2,t2,w2,w3,w4,x1,x2,x3,x4,x5,x6,rfl,rfl⟩:=hv
   have hset:=QqB (n:=n) (S:=(H,b)) hi hA x2 hall (vE ((i:Nat):Int)) (x:=Z3 L2 (tmN tm)) (XW x1).symm
   simp -implicitDefEqProofs (disch:=omega) only [go_sem,Qf,↓reduceIte,rA,rq,rL,zA,Nat.mul_one,nF,zL,QaJ,ZM,QaI,true_implies,true_and,and_true,nF,lC,lN,cA,nA,aA,hi,hr,hvl,hset]
   iterate 10 (try (refine Qb 4 ?_; simp -implicitDefEqProofs (disch:=omega) only [go_sem,Qf,↓reduceIte,reduceCtorEq,rA,rq,rL,rT,Nat.reduceSub,Nat.reduceMul,Int.reduceToNat,Int.reduceLE,Int.reduceLT,Int.reduceEq,Int.reduceNe,Nat.succ_ne_zero,zA,aZ,Nat.mul_one,Nat.one_mul,Nat.zero_mul,decide_true,decide_false,nT,nF,lR,zL,ge_iff_le,gt_iff_lt,Nat.reduceBEq,Nat.reduceBNe,beq_self_eq_true,bne_self_eq_false,Option.isSome_some,Option.isSome_none,Option.getD_some,Option.getD_none,X9,QN,relate_Fresh,Qdf,Qde,Qdd,Qdc,Qdb,Qda,Qb8,Qcz,Qcy,Qcx,Zp,Zo,YU,Zh,Zg,Zf,Ze,Zd,Zc,Zb,Za,YT,Yj,Ys,Yr,Yq,Zn,Xp,XD,XC,XB,XA,Xz,Xy,Xx,ZJ,Qel,QlH,Qge,Qog,Qha,QnJ,Qfv,Qof,QeM,QlG,Qc1,Qgf,Qbv,Qg9,Qb6,Qg8,Qb5,Qg7,Qb4,Qfu,QaU,Qft,Qbu,Qdq,QaT,QaJ,ZM,QaI,ZL,Qg6,Qbt,Qd0,Qbs,QbK,Qb3,Qc0,Qal,Qci,Qbr,Z1,YZ,QdZ,Qbq,QeK,QaS,Qg5,Qb2,Qg4,Qb1,Zk,Qbw,false_implies,true_implies,true_and,and_true,not_true_eq_false,not_false_eq_true,Int.reduceBEq,nT,nF,decide_true,decide_false,lC,lN,cA,nA,aA,lA,List.getElem?_cons_zero,List.getElem?_cons_succ,List.set_cons_zero,List.set_cons_succ,tS,tZ,tN,List.drop_succ_cons,List.drop_zero,List.drop_nil,hi,hr,hvl,hset]))
   refine ⟨_,_,Shift.refl _ _ _ _,?_,L2,t2,w2,w3,w4,x2,x3,x4,rfl⟩
   simp only [QF]; simp -implicitDefEqProofs (disch:=omega) only [go_sem,↓reduceIte,rq,and_true,e2]
 ·have hof':=hof (yW y 18 17 (some (.arr wV 44 (Yy L up H i n))) (some (.arr wW 49 (.sl 18 wV 0 1 n none::rest))))
  simp only [frX,yW,rq,if_true,if_false,prV,prC] at hof' ⊢
  refine Qu 12 ?_
  simp -implicitDefEqProofs (disch:=omega) only [go_sem,↓reduceIte,rq,decide_true,Yj,Ys,Yr,Yq,decide_true,hi]
  iterate 10 (try (refine Qb 4 ?_; simp -implicitDefEqProofs (disch:=omega) only [go_sem,↓reduceIte,rA,rq,rL,zA,aZ,QaJ,true_implies,and_true,lC,lN,cA,nA,tZ,List.drop_succ_cons,List.drop_zero,hr]))
  repeat' (first | with_reducible refine And.intro ?_ ?_ | (refine Qb 12 ?_; simp -implicitDefEqProofs (disch:=omega) only [go_sem,Qf,↓reduceIte,reduceCtorEq,rA,rq,rL,rT,Nat.reduceSub,Nat.reduceMul,Int.reduceToNat,Int.reduceLE,Int.reduceLT,Int.reduceEq,Int.reduceNe,Nat.succ_ne_zero,zA,aZ,Nat.mul_one,Nat.one_mul,Nat.zero_mul,decide_true,decide_false,nT,nF,lR,zL,ge_iff_le,gt_iff_lt,Nat.reduceBEq,Nat.reduceBNe,beq_self_eq_true,bne_self_eq_false,Option.isSome_some,Option.isSome_none,Option.getD_some,Option.getD_none,X9,QN,relate_Fresh,Qdf,Qde,Qdd,Qdc,Qdb,Qda,Qb8,Qcz,Qcy,Qcx,Zp,Zo,YU,Zh,Zg,Zf,Ze,Zd,Zc,Zb,Za,YT,Yj,Ys,Yr,Yq,Zn,Xp,XD,XC,XB,XA,Xz,Xy,Xx,ZJ,Qel,QlH,Qge,Qog,Qha,QnJ,Qfv,Qof,QeM,QlG,Qc1,Qgf,Qbv,Qg9,Qb6,Qg8,Qb5,Qg7,Qb4,Qfu,QaU,Qft,Qbu,Qdq,QaT,QaJ,ZM,QaI,ZL,Qg6,Qbt,Qd0,Qbs,QbK,Qb3,Qc0,Qal,Qci,Qbr,Z1,YZ,QdZ,Qbq,QeK,QaS,Qg5,Qb2,Qg4,Qb1,Zk,Qbw,false_implies,true_implies,true_and,and_true,not_true_eq_false,not_false_eq_true,Int.reduceBEq,nT,nF,decide_true,decide_false,lC,lN,cA,nA,aA,lA,List.getElem?_cons_zero,List.getElem?_cons_succ,List.set_cons_zero,List.set_cons_succ,tS,tZ,tN,List.drop_succ_cons,List.drop_zero,List.drop_nil,hi,hr]))
  all_goals
   refine CV.use 12 (CV.of hT QO (hof' t)) fun v σ hv=>?_
   obtain ⟨tm,L2,t2,w2,w3,w4,x1,x2,x3,x4,x5,x6,rfl,rfl⟩:=hv
   have hset:=QqB (n:=n) (S:=(H,b)) hi hA x2 hall (vE ((i:Nat):Int)) (x:=Z3 L2 (tmN tm)) (XW x1).symm
   simp -implicitDefEqProofs (disch:=omega) only [go_sem,Qf,↓reduceIte,rA,rq,rL,zA,Nat.mul_one,nF,zL,QaJ,QaI,ZL,true_implies,true_and,and_true,nF,lC,lN,cA,nA,aA,hi,hr,hvl,hset]
   iterate 10 (try (refine Qb 4 ?_; simp -implicitDefEqProofs (disch:=omega) only [go_sem,Qf,↓reduceIte,reduceCtorEq,rA,rq,rL,rT,Nat.reduceSub,Nat.reduceMul,Int.reduceToNat,Int.reduceLE,Int.reduceLT,Int.reduceEq,Int.reduceNe,Nat.succ_ne_zero,zA,aZ,Nat.mul_one,Nat.one_mul,Nat.zero_mul,decide_true,decide_false,nT,nF,lR,zL,ge_iff_le,gt_iff_lt,Nat.reduceBEq,Nat.reduceBNe,beq_self_eq_true,bne_self_eq_false,Option.isSome_some,Option.isSome_none,Option.getD_some,Option.getD_none,X9,QN,relate_Fresh,Qdf,Qde,Qdd,Qdc,Qdb,Qda,Qb8,Qcz,Qcy,Qcx,Zp,Zo,YU,Zh,Zg,Zf,Ze,Zd,Zc,Zb,Za,YT,Yj,Ys,Yr,Yq,Zn,Xp,XD,XC,XB,XA,Xz,Xy,Xx,ZJ,Qel,QlH,Qge,Qog,Qha,QnJ,Qfv,Qof,QeM,QlG,Qc1,Qgf,Qbv,Qg9,Qb6,Qg8,Qb5,Qg7,Qb4,Qfu,QaU,Qft,Qbu,Qdq,QaT,QaJ,ZM,QaI,ZL,Qg6,Qbt,Qd0,Qbs,QbK,Qb3,Qc0,Qal,Qci,Qbr,Z1,YZ,QdZ,Qbq,QeK,QaS,Qg5,Qb2,Qg4,Qb1,Zk,Qbw,false_implies,true_implies,true_and,and_true,not_true_eq_false,not_false_eq_true,Int.reduceBEq,nT,nF,decide_true,decide_false,lC,lN,cA,nA,aA,lA,List.getElem?_cons_zero,List.getElem?_cons_succ,List.set_cons_zero,List.set_cons_succ,tS,tZ,tN,List.drop_succ_cons,List.drop_zero,List.drop_nil,hi,hr,hvl,hset]))
   refine ⟨_,_,Shift.refl _ _ _ _,?_,L2,t2,w2,w3,w4,x2,x3,x4,rfl⟩
   simp only [QF]; simp -implicitDefEqProofs (disch:=omega) only [go_sem,↓reduceIte,rq,and_true,e2]
end Go.Proofs.YtfgccihafnjalaaGreatDoor
