/- Places in a heap with a graph ahead. -/
import Derived.Test.YtfgccihafnjalaaGreatDoorJ8
open Nat renaming reduceEqDiff → rq, reduceAdd → rA, reduceLeDiff → rL, reduceLT → rT, zero_add → zA, le_refl → lR, zero_le → zL, add_zero → aZ
open List renaming length_cons → lC, length_nil → lN, take_succ_cons → tS, length_append → lA, nil_append → nA, cons_append → cA, append_assoc → aA, take_nil → tN, take_zero → tZ, length_map → lM
open Bool renaming not_false → nF, not_true → nT
namespace Go.Proofs.YtfgccihafnjalaaGreatDoor
open Go Go.Am Go.Re
set_option maxRecDepth 100000
theorem Qhn {fmt : Int → List UInt8} {v0 v1 v2 v3 v4 : Nat} {L : List Nd} {ex : List (Option Ob)} {x0 x1 x2 x3 x4 x5 y : Option Ob} : (kG fmt v0 v1 v2 v3 v4 L ++ x0 :: x1 :: x2 :: x3 :: x4 :: x5 :: y :: ex)[11]? = some y := rfl
theorem Qck {fmt : Int → List UInt8} {v0 v1 v2 v3 v4 : Nat} {L : List Nd} {ex : List (Option Ob)} {x0 x1 x2 x3 x4 x5 y z : Option Ob} : (kG fmt v0 v1 v2 v3 v4 L ++ x0 :: x1 :: x2 :: x3 :: x4 :: x5 :: y :: ex).set 11 z = kG fmt v0 v1 v2 v3 v4 L ++ x0 :: x1 :: x2 :: x3 :: x4 :: x5 :: z :: ex := rfl
theorem Qhm {fmt : Int → List UInt8} {v0 v1 v2 v3 v4 : Nat} {L : List Nd} {ex : List (Option Ob)} {x0 x1 x2 x3 x4 x5 x6 y : Option Ob} : (kG fmt v0 v1 v2 v3 v4 L ++ x0 :: x1 :: x2 :: x3 :: x4 :: x5 :: x6 :: y :: ex)[12]? = some y := rfl
theorem Qcj {fmt : Int → List UInt8} {v0 v1 v2 v3 v4 : Nat} {L : List Nd} {ex : List (Option Ob)} {x0 x1 x2 x3 x4 x5 x6 y z : Option Ob} : (kG fmt v0 v1 v2 v3 v4 L ++ x0 :: x1 :: x2 :: x3 :: x4 :: x5 :: x6 :: y :: ex).set 12 z = kG fmt v0 v1 v2 v3 v4 L ++ x0 :: x1 :: x2 :: x3 :: x4 :: x5 :: x6 :: z :: ex := rfl
theorem Qhl {fmt : Int → List UInt8} {v0 v1 v2 v3 v4 : Nat} {L : List Nd} {ex : List (Option Ob)} {x0 x1 x2 x3 x4 x5 x6 x7 y : Option Ob} : (kG fmt v0 v1 v2 v3 v4 L ++ x0 :: x1 :: x2 :: x3 :: x4 :: x5 :: x6 :: x7 :: y :: ex)[13]? = some y := rfl
theorem Qci {fmt : Int → List UInt8} {v0 v1 v2 v3 v4 : Nat} {L : List Nd} {ex : List (Option Ob)} {x0 x1 x2 x3 x4 x5 x6 x7 y z : Option Ob} : (kG fmt v0 v1 v2 v3 v4 L ++ x0 :: x1 :: x2 :: x3 :: x4 :: x5 :: x6 :: x7 :: y :: ex).set 13 z = kG fmt v0 v1 v2 v3 v4 L ++ x0 :: x1 :: x2 :: x3 :: x4 :: x5 :: x6 :: x7 :: z :: ex := rfl
theorem QfH {fmt : Int → List UInt8} {v0 v1 v2 v3 v4 : Nat} {L : List Nd} {ex : List (Option Ob)} {x0 x1 x2 x3 x4 x5 x6 x7 x8 y : Option Ob} : (kG fmt v0 v1 v2 v3 v4 L ++ x0 :: x1 :: x2 :: x3 :: x4 :: x5 :: x6 :: x7 :: x8 :: y :: ex)[14]? = some y := rfl
theorem Qa7 {fmt : Int → List UInt8} {v0 v1 v2 v3 v4 : Nat} {L : List Nd} {ex : List (Option Ob)} {x0 x1 x2 x3 x4 x5 x6 x7 x8 y z : Option Ob} : (kG fmt v0 v1 v2 v3 v4 L ++ x0 :: x1 :: x2 :: x3 :: x4 :: x5 :: x6 :: x7 :: x8 :: y :: ex).set 14 z = kG fmt v0 v1 v2 v3 v4 L ++ x0 :: x1 :: x2 :: x3 :: x4 :: x5 :: x6 :: x7 :: x8 :: z :: ex := rfl
theorem QfG {fmt : Int → List UInt8} {v0 v1 v2 v3 v4 : Nat} {L : List Nd} {ex : List (Option Ob)} {x0 x1 x2 x3 x4 x5 x6 x7 x8 x9 y : Option Ob} : (kG fmt v0 v1 v2 v3 v4 L ++ x0 :: x1 :: x2 :: x3 :: x4 :: x5 :: x6 :: x7 :: x8 :: x9 :: y :: ex)[15]? = some y := rfl
theorem QbG {fmt : Int → List UInt8} {v0 v1 v2 v3 v4 : Nat} {L : List Nd} {ex : List (Option Ob)} {x0 x1 x2 x3 x4 x5 x6 x7 x8 x9 y z : Option Ob} : (kG fmt v0 v1 v2 v3 v4 L ++ x0 :: x1 :: x2 :: x3 :: x4 :: x5 :: x6 :: x7 :: x8 :: x9 :: y :: ex).set 15 z = kG fmt v0 v1 v2 v3 v4 L ++ x0 :: x1 :: x2 :: x3 :: x4 :: x5 :: x6 :: x7 :: x8 :: x9 :: z :: ex := rfl
theorem Qdw {fmt : Int → List UInt8} {v0 v1 v2 v3 v4 : Nat} {L : List Nd} {ex : List (Option Ob)} {x0 x1 x2 x3 x4 x5 x6 x7 x8 x9 x10 y : Option Ob} : (kG fmt v0 v1 v2 v3 v4 L ++ x0 :: x1 :: x2 :: x3 :: x4 :: x5 :: x6 :: x7 :: x8 :: x9 :: x10 :: y :: ex)[16]? = some y := rfl
theorem Qa6 {fmt : Int → List UInt8} {v0 v1 v2 v3 v4 : Nat} {L : List Nd} {ex : List (Option Ob)} {x0 x1 x2 x3 x4 x5 x6 x7 x8 x9 x10 y z : Option Ob} : (kG fmt v0 v1 v2 v3 v4 L ++ x0 :: x1 :: x2 :: x3 :: x4 :: x5 :: x6 :: x7 :: x8 :: x9 :: x10 :: y :: ex).set 16 z = kG fmt v0 v1 v2 v3 v4 L ++ x0 :: x1 :: x2 :: x3 :: x4 :: x5 :: x6 :: x7 :: x8 :: x9 :: x10 :: z :: ex := rfl
theorem QaV {fmt : Int → List UInt8} {v0 v1 v2 v3 v4 : Nat} {L : List Nd} {ex : List (Option Ob)} {x0 x1 x2 x3 x4 x5 x6 x7 x8 x9 x10 x11 y : Option Ob} : (kG fmt v0 v1 v2 v3 v4 L ++ x0 :: x1 :: x2 :: x3 :: x4 :: x5 :: x6 :: x7 :: x8 :: x9 :: x10 :: x11 :: y :: ex)[17]? = some y := rfl
theorem ZX {fmt : Int → List UInt8} {v0 v1 v2 v3 v4 : Nat} {L : List Nd} {ex : List (Option Ob)} {x0 x1 x2 x3 x4 x5 x6 x7 x8 x9 x10 x11 y z : Option Ob} : (kG fmt v0 v1 v2 v3 v4 L ++ x0 :: x1 :: x2 :: x3 :: x4 :: x5 :: x6 :: x7 :: x8 :: x9 :: x10 :: x11 :: y :: ex).set 17 z = kG fmt v0 v1 v2 v3 v4 L ++ x0 :: x1 :: x2 :: x3 :: x4 :: x5 :: x6 :: x7 :: x8 :: x9 :: x10 :: x11 :: z :: ex := rfl
theorem QaU {fmt : Int → List UInt8} {v0 v1 v2 v3 v4 : Nat} {L : List Nd} {ex : List (Option Ob)} {x0 x1 x2 x3 x4 x5 x6 x7 x8 x9 x10 x11 x12 y : Option Ob} : (kG fmt v0 v1 v2 v3 v4 L ++ x0 :: x1 :: x2 :: x3 :: x4 :: x5 :: x6 :: x7 :: x8 :: x9 :: x10 :: x11 :: x12 :: y :: ex)[18]? = some y := rfl
theorem ZW {fmt : Int → List UInt8} {v0 v1 v2 v3 v4 : Nat} {L : List Nd} {ex : List (Option Ob)} {x0 x1 x2 x3 x4 x5 x6 x7 x8 x9 x10 x11 x12 y z : Option Ob} : (kG fmt v0 v1 v2 v3 v4 L ++ x0 :: x1 :: x2 :: x3 :: x4 :: x5 :: x6 :: x7 :: x8 :: x9 :: x10 :: x11 :: x12 :: y :: ex).set 18 z = kG fmt v0 v1 v2 v3 v4 L ++ x0 :: x1 :: x2 :: x3 :: x4 :: x5 :: x6 :: x7 :: x8 :: x9 :: x10 :: x11 :: x12 :: z :: ex := rfl
theorem Qhk {fmt : Int → List UInt8} {v0 v1 v2 v3 v4 : Nat} {L : List Nd} {ex : List (Option Ob)} {x0 x1 x2 x3 x4 x5 x6 x7 x8 x9 x10 x11 x12 x13 y : Option Ob} : (kG fmt v0 v1 v2 v3 v4 L ++ x0 :: x1 :: x2 :: x3 :: x4 :: x5 :: x6 :: x7 :: x8 :: x9 :: x10 :: x11 :: x12 :: x13 :: y :: ex)[19]? = some y := rfl
theorem QbF {fmt : Int → List UInt8} {v0 v1 v2 v3 v4 : Nat} {L : List Nd} {ex : List (Option Ob)} {x0 x1 x2 x3 x4 x5 x6 x7 x8 x9 x10 x11 x12 x13 y z : Option Ob} : (kG fmt v0 v1 v2 v3 v4 L ++ x0 :: x1 :: x2 :: x3 :: x4 :: x5 :: x6 :: x7 :: x8 :: x9 :: x10 :: x11 :: x12 :: x13 :: y :: ex).set 19 z = kG fmt v0 v1 v2 v3 v4 L ++ x0 :: x1 :: x2 :: x3 :: x4 :: x5 :: x6 :: x7 :: x8 :: x9 :: x10 :: x11 :: x12 :: x13 :: z :: ex := rfl
theorem Qec {fmt : Int → List UInt8} {v0 v1 v2 v3 v4 : Nat} {L : List Nd} {ex : List (Option Ob)} {x0 x1 x2 x3 x4 x5 x6 x7 x8 x9 x10 x11 x12 x13 x14 y : Option Ob} : (kG fmt v0 v1 v2 v3 v4 L ++ x0 :: x1 :: x2 :: x3 :: x4 :: x5 :: x6 :: x7 :: x8 :: x9 :: x10 :: x11 :: x12 :: x13 :: x14 :: y :: ex)[20]? = some y := rfl
theorem QbE {fmt : Int → List UInt8} {v0 v1 v2 v3 v4 : Nat} {L : List Nd} {ex : List (Option Ob)} {x0 x1 x2 x3 x4 x5 x6 x7 x8 x9 x10 x11 x12 x13 x14 y z : Option Ob} : (kG fmt v0 v1 v2 v3 v4 L ++ x0 :: x1 :: x2 :: x3 :: x4 :: x5 :: x6 :: x7 :: x8 :: x9 :: x10 :: x11 :: x12 :: x13 :: x14 :: y :: ex).set 20 z = kG fmt v0 v1 v2 v3 v4 L ++ x0 :: x1 :: x2 :: x3 :: x4 :: x5 :: x6 :: x7 :: x8 :: x9 :: x10 :: x11 :: x12 :: x13 :: x14 :: z :: ex := rfl
theorem QbZ {fmt : Int → List UInt8} {v0 v1 v2 v3 v4 : Nat} {L : List Nd} {ex : List (Option Ob)} {x0 x1 x2 x3 x4 x5 x6 x7 x8 x9 x10 x11 x12 x13 x14 x15 y : Option Ob} : (kG fmt v0 v1 v2 v3 v4 L ++ x0 :: x1 :: x2 :: x3 :: x4 :: x5 :: x6 :: x7 :: x8 :: x9 :: x10 :: x11 :: x12 :: x13 :: x14 :: x15 :: y :: ex)[21]? = some y := rfl
theorem Qch {fmt : Int → List UInt8} {v0 v1 v2 v3 v4 : Nat} {L : List Nd} {ex : List (Option Ob)} {x0 x1 x2 x3 x4 x5 x6 x7 x8 x9 x10 x11 x12 x13 x14 x15 y z : Option Ob} : (kG fmt v0 v1 v2 v3 v4 L ++ x0 :: x1 :: x2 :: x3 :: x4 :: x5 :: x6 :: x7 :: x8 :: x9 :: x10 :: x11 :: x12 :: x13 :: x14 :: x15 :: y :: ex).set 21 z = kG fmt v0 v1 v2 v3 v4 L ++ x0 :: x1 :: x2 :: x3 :: x4 :: x5 :: x6 :: x7 :: x8 :: x9 :: x10 :: x11 :: x12 :: x13 :: x14 :: x15 :: z :: ex := rfl
theorem Qc3 {fmt : Int → List UInt8} {v0 v1 v2 v3 v4 : Nat} {L : List Nd} {ex : List (Option Ob)} {x0 x1 x2 x3 x4 x5 x6 x7 x8 x9 x10 x11 x12 x13 x14 x15 x16 y : Option Ob} : (kG fmt v0 v1 v2 v3 v4 L ++ x0 :: x1 :: x2 :: x3 :: x4 :: x5 :: x6 :: x7 :: x8 :: x9 :: x10 :: x11 :: x12 :: x13 :: x14 :: x15 :: x16 :: y :: ex)[22]? = some y := rfl
theorem Qaz {fmt : Int → List UInt8} {v0 v1 v2 v3 v4 : Nat} {L : List Nd} {ex : List (Option Ob)} {x0 x1 x2 x3 x4 x5 x6 x7 x8 x9 x10 x11 x12 x13 x14 x15 x16 y z : Option Ob} : (kG fmt v0 v1 v2 v3 v4 L ++ x0 :: x1 :: x2 :: x3 :: x4 :: x5 :: x6 :: x7 :: x8 :: x9 :: x10 :: x11 :: x12 :: x13 :: x14 :: x15 :: x16 :: y :: ex).set 22 z = kG fmt v0 v1 v2 v3 v4 L ++ x0 :: x1 :: x2 :: x3 :: x4 :: x5 :: x6 :: x7 :: x8 :: x9 :: x10 :: x11 :: x12 :: x13 :: x14 :: x15 :: x16 :: z :: ex := rfl
theorem Qcv {fmt : Int → List UInt8} {v0 v1 v2 v3 v4 : Nat} {L : List Nd} {ex : List (Option Ob)} {x0 x1 x2 x3 x4 x5 x6 x7 x8 x9 x10 x11 x12 x13 x14 x15 x16 x17 y : Option Ob} : (kG fmt v0 v1 v2 v3 v4 L ++ x0 :: x1 :: x2 :: x3 :: x4 :: x5 :: x6 :: x7 :: x8 :: x9 :: x10 :: x11 :: x12 :: x13 :: x14 :: x15 :: x16 :: x17 :: y :: ex)[23]? = some y := rfl
theorem QbD {fmt : Int → List UInt8} {v0 v1 v2 v3 v4 : Nat} {L : List Nd} {ex : List (Option Ob)} {x0 x1 x2 x3 x4 x5 x6 x7 x8 x9 x10 x11 x12 x13 x14 x15 x16 x17 y z : Option Ob} : (kG fmt v0 v1 v2 v3 v4 L ++ x0 :: x1 :: x2 :: x3 :: x4 :: x5 :: x6 :: x7 :: x8 :: x9 :: x10 :: x11 :: x12 :: x13 :: x14 :: x15 :: x16 :: x17 :: y :: ex).set 23 z = kG fmt v0 v1 v2 v3 v4 L ++ x0 :: x1 :: x2 :: x3 :: x4 :: x5 :: x6 :: x7 :: x8 :: x9 :: x10 :: x11 :: x12 :: x13 :: x14 :: x15 :: x16 :: x17 :: z :: ex := rfl
theorem Qac {fmt : Int → List UInt8} {v0 v1 v2 v3 v4 : Nat} {L : List Nd} {ex : List (Option Ob)} {x0 x1 x2 x3 x4 x5 x6 x7 x8 x9 x10 x11 x12 x13 x14 x15 x16 x17 x18 y : Option Ob} : (kG fmt v0 v1 v2 v3 v4 L ++ x0 :: x1 :: x2 :: x3 :: x4 :: x5 :: x6 :: x7 :: x8 :: x9 :: x10 :: x11 :: x12 :: x13 :: x14 :: x15 :: x16 :: x17 :: x18 :: y :: ex)[24]? = some y := rfl
theorem Y5 {fmt : Int → List UInt8} {v0 v1 v2 v3 v4 : Nat} {L : List Nd} {ex : List (Option Ob)} {x0 x1 x2 x3 x4 x5 x6 x7 x8 x9 x10 x11 x12 x13 x14 x15 x16 x17 x18 y z : Option Ob} : (kG fmt v0 v1 v2 v3 v4 L ++ x0 :: x1 :: x2 :: x3 :: x4 :: x5 :: x6 :: x7 :: x8 :: x9 :: x10 :: x11 :: x12 :: x13 :: x14 :: x15 :: x16 :: x17 :: x18 :: y :: ex).set 24 z = kG fmt v0 v1 v2 v3 v4 L ++ x0 :: x1 :: x2 :: x3 :: x4 :: x5 :: x6 :: x7 :: x8 :: x9 :: x10 :: x11 :: x12 :: x13 :: x14 :: x15 :: x16 :: x17 :: x18 :: z :: ex := rfl
theorem Qeb {fmt : Int → List UInt8} {v0 v1 v2 v3 v4 : Nat} {L : List Nd} {ex : List (Option Ob)} {x0 x1 x2 x3 x4 x5 x6 x7 x8 x9 x10 x11 x12 x13 x14 x15 x16 x17 x18 x19 y : Option Ob} : (kG fmt v0 v1 v2 v3 v4 L ++ x0 :: x1 :: x2 :: x3 :: x4 :: x5 :: x6 :: x7 :: x8 :: x9 :: x10 :: x11 :: x12 :: x13 :: x14 :: x15 :: x16 :: x17 :: x18 :: x19 :: y :: ex)[25]? = some y := rfl
theorem QbC {fmt : Int → List UInt8} {v0 v1 v2 v3 v4 : Nat} {L : List Nd} {ex : List (Option Ob)} {x0 x1 x2 x3 x4 x5 x6 x7 x8 x9 x10 x11 x12 x13 x14 x15 x16 x17 x18 x19 y z : Option Ob} : (kG fmt v0 v1 v2 v3 v4 L ++ x0 :: x1 :: x2 :: x3 :: x4 :: x5 :: x6 :: x7 :: x8 :: x9 :: x10 :: x11 :: x12 :: x13 :: x14 :: x15 :: x16 :: x17 :: x18 :: x19 :: y :: ex).set 25 z = kG fmt v0 v1 v2 v3 v4 L ++ x0 :: x1 :: x2 :: x3 :: x4 :: x5 :: x6 :: x7 :: x8 :: x9 :: x10 :: x11 :: x12 :: x13 :: x14 :: x15 :: x16 :: x17 :: x18 :: x19 :: z :: ex := rfl
theorem QeY {fmt : Int → List UInt8} {v0 v1 v2 v3 v4 : Nat} {L : List Nd} {ex : List (Option Ob)} {x0 x1 x2 x3 x4 x5 x6 x7 x8 x9 x10 x11 x12 x13 x14 x15 x16 x17 x18 x19 x20 y : Option Ob} : (kG fmt v0 v1 v2 v3 v4 L ++ x0 :: x1 :: x2 :: x3 :: x4 :: x5 :: x6 :: x7 :: x8 :: x9 :: x10 :: x11 :: x12 :: x13 :: x14 :: x15 :: x16 :: x17 :: x18 :: x19 :: x20 :: y :: ex)[26]? = some y := rfl
theorem Qa5 {fmt : Int → List UInt8} {v0 v1 v2 v3 v4 : Nat} {L : List Nd} {ex : List (Option Ob)} {x0 x1 x2 x3 x4 x5 x6 x7 x8 x9 x10 x11 x12 x13 x14 x15 x16 x17 x18 x19 x20 y z : Option Ob} : (kG fmt v0 v1 v2 v3 v4 L ++ x0 :: x1 :: x2 :: x3 :: x4 :: x5 :: x6 :: x7 :: x8 :: x9 :: x10 :: x11 :: x12 :: x13 :: x14 :: x15 :: x16 :: x17 :: x18 :: x19 :: x20 :: y :: ex).set 26 z = kG fmt v0 v1 v2 v3 v4 L ++ x0 :: x1 :: x2 :: x3 :: x4 :: x5 :: x6 :: x7 :: x8 :: x9 :: x10 :: x11 :: x12 :: x13 :: x14 :: x15 :: x16 :: x17 :: x18 :: x19 :: x20 :: z :: ex := rfl
theorem Qhj {fmt : Int → List UInt8} {v0 v1 v2 v3 v4 : Nat} {L : List Nd} {ex : List (Option Ob)} {x0 x1 x2 x3 x4 x5 x6 x7 x8 x9 x10 x11 x12 x13 x14 x15 x16 x17 x18 x19 x20 x21 y : Option Ob} : (kG fmt v0 v1 v2 v3 v4 L ++ x0 :: x1 :: x2 :: x3 :: x4 :: x5 :: x6 :: x7 :: x8 :: x9 :: x10 :: x11 :: x12 :: x13 :: x14 :: x15 :: x16 :: x17 :: x18 :: x19 :: x20 :: x21 :: y :: ex)[27]? = some y := rfl
theorem Qcg {fmt : Int → List UInt8} {v0 v1 v2 v3 v4 : Nat} {L : List Nd} {ex : List (Option Ob)} {x0 x1 x2 x3 x4 x5 x6 x7 x8 x9 x10 x11 x12 x13 x14 x15 x16 x17 x18 x19 x20 x21 y z : Option Ob} : (kG fmt v0 v1 v2 v3 v4 L ++ x0 :: x1 :: x2 :: x3 :: x4 :: x5 :: x6 :: x7 :: x8 :: x9 :: x10 :: x11 :: x12 :: x13 :: x14 :: x15 :: x16 :: x17 :: x18 :: x19 :: x20 :: x21 :: y :: ex).set 27 z = kG fmt v0 v1 v2 v3 v4 L ++ x0 :: x1 :: x2 :: x3 :: x4 :: x5 :: x6 :: x7 :: x8 :: x9 :: x10 :: x11 :: x12 :: x13 :: x14 :: x15 :: x16 :: x17 :: x18 :: x19 :: x20 :: x21 :: z :: ex := rfl
theorem Qhi {fmt : Int → List UInt8} {v0 v1 v2 v3 v4 : Nat} {L : List Nd} {ex : List (Option Ob)} {x0 x1 x2 x3 x4 x5 x6 x7 x8 x9 x10 x11 x12 x13 x14 x15 x16 x17 x18 x19 x20 x21 x22 y : Option Ob} : (kG fmt v0 v1 v2 v3 v4 L ++ x0 :: x1 :: x2 :: x3 :: x4 :: x5 :: x6 :: x7 :: x8 :: x9 :: x10 :: x11 :: x12 :: x13 :: x14 :: x15 :: x16 :: x17 :: x18 :: x19 :: x20 :: x21 :: x22 :: y :: ex)[28]? = some y := rfl
theorem Qcf {fmt : Int → List UInt8} {v0 v1 v2 v3 v4 : Nat} {L : List Nd} {ex : List (Option Ob)} {x0 x1 x2 x3 x4 x5 x6 x7 x8 x9 x10 x11 x12 x13 x14 x15 x16 x17 x18 x19 x20 x21 x22 y z : Option Ob} : (kG fmt v0 v1 v2 v3 v4 L ++ x0 :: x1 :: x2 :: x3 :: x4 :: x5 :: x6 :: x7 :: x8 :: x9 :: x10 :: x11 :: x12 :: x13 :: x14 :: x15 :: x16 :: x17 :: x18 :: x19 :: x20 :: x21 :: x22 :: y :: ex).set 28 z = kG fmt v0 v1 v2 v3 v4 L ++ x0 :: x1 :: x2 :: x3 :: x4 :: x5 :: x6 :: x7 :: x8 :: x9 :: x10 :: x11 :: x12 :: x13 :: x14 :: x15 :: x16 :: x17 :: x18 :: x19 :: x20 :: x21 :: x22 :: z :: ex := rfl
variable {P : Program} {G : Nat → Option V}
def tmN : Tm → Nd
 | .c n => co n
 | .s b => sy b
def hoV (L : List Nd) (H : List (Pr × Tm)) : List (V × V) := H.map fun p => (prV p.1, .int .i64 (Qad L (tmN p.2)))
def AllH (L : List Nd) (H : List (Pr × Tm)) : Prop := ∀ p ∈ H, Hs L (tmN p.2)
theorem AllH.ext {L L' : List Nd} {H : List (Pr × Tm)} (h : AllH L H) (e : Ext L L') : AllH L' H := fun p hp => (h p hp).ext e
theorem QuP {L L' : List Nd} {H : List (Pr × Tm)} (h : AllH L H) (e : Ext L L') : hoV L H = hoV L' H := List.map_congr_left fun p hp => by rw [Qdx (h p hp) e]
theorem Qnq (L : List Nd) (H : List (Pr × Tm)) (x : Pr) : QlF [Kd.i, Kd.i, Kd.i] (V.agg [.int .i64 x.v, .int .u8 x.k, .int .i64 x.n]) (hoV L H) = (Re.get H x).map fun t => .int .i64 (Qad L (tmN t)) := by
 show QlF [Kd.i, Kd.i, Kd.i] (prV x) (hoV L H) = _
 unfold QlF hoV Re.get
 induction H with
 | nil => rfl
 | cons p H ih =>
   simp only [List.map_cons, List.find?_cons, QmB]
   by_cases h : x = p.1
   ·subst h; simp
   ·have h' : ¬ p.1 = x := fun e => h e.symm
    simp only [h, h', decide_false]
    exact ih
theorem QDb (L : List Nd) (H : List (Pr × Tm)) (x : Pr) : Qcl true [Kd.i, Kd.i, Kd.i] (V.agg [.int .i64 x.v, .int .u8 x.k, .int .i64 x.n]) (hoV L H) = True := by
 refine eq_true ⟨⟨rfl, rfl⟩, fun p hp => ?_⟩
 simp only [hoV, List.mem_map] at hp
 obtain ⟨b, _, rfl⟩ := hp
 exact ⟨rfl, rfl⟩
theorem QzW (L : List Nd) (H : List (Pr × Tm)) (x : Pr) (t : Tm) (h : Re.get H x = none) : Qni [Kd.i, Kd.i, Kd.i] (V.agg [.int .i64 x.v, .int .u8 x.k, .int .i64 x.n]) (.int .i64 (Qad L (tmN t))) (hoV L H) = hoV L (H ++ [(x, t)]) := by
 show Qni [Kd.i, Kd.i, Kd.i] (prV x) _ (hoV L H) = _
 have h' := Qrp.1 h
 clear h
 unfold hoV
 induction H with
 | nil => rfl
 | cons p H ih =>
   simp only [List.map_cons, Qni, QmB, cA]
   have hp : ¬ x = p.1 := fun e => h' p (by simp) e.symm
   simp only [hp, decide_false, Bool.false_eq_true, if_false]
   rw [ih fun q hq => h' q (by simp [hq])]
theorem AllH.snoc {L : List Nd} {H : List (Pr × Tm)} (h : AllH L H) {x : Pr} {t : Tm} (ht : Hs L (tmN t)) : AllH L (H ++ [(x, t)]) := fun p hp => by
 rcases List.mem_append.1 hp with hp | hp
 ·exact h p hp
 ·simp at hp; subst hp; exact ht
def frX (v0 wg wb wu wp wm wh : Nat) (y : Nat → Option Ob) (up : List (Pr × Pr)) (L : List Nd) (H : List (Pr × Tm)) (b : Int) : List (Option Ob) := [some (.arr wg 41 [.ptr 1 v0 0]), y 6, y 7, y 8, y 9, y 10, y 11, y 12, y 13, y 14, y 15, some (.arr wb 2 [.int .i64 b]), y 17, y 18, some (.map wu (upV up)), some (.arr wp 96 [.mp 19 wu]), y 21, some (.map wm (hoV L H)), some (.arr wh 101 [.mp 22 wm]), y 24]
theorem Qvg (hT : Qw P tab) (F : Fmt P G) {v0 v1 v2 v3 v4 wg wb wu wp wm wh t : Nat} {y : Nat → Option Ob} {up : List (Pr × Pr)} {L : List Nd} {H : List (Pr × Tm)} {b : Int} (hf : Fst up) (hA : AllH L H) (hb : 0 ≤ b ∧ b ≤ 2199023255552) (hL : L.length ≤ 100000) (e : Pr) :
 C P G 0 Qab [prV e, .ptr 20 wp 0, .ptr 23 wh 0, .ptr 5 wg 0, .ptr 16 wb 0] ⟨t, kG F.fmt v0 v1 v2 v3 v4 L ++ frX v0 wg wb wu wp wm wh y up L H b⟩ fun v σ => ∃ tm L' t' v2' v3' v4', Re.get (ofT up (H, b) e).1 (Qj up e) = some tm ∧ Ext L L' ∧ L'.length ≤ L.length + 1 ∧ AllH L' (ofT up (H, b) e).1 ∧ Hs L' (tmN tm) ∧ t ≤ t' ∧ v = .int .i64 (Qad L' (tmN tm)) ∧ σ = ⟨t', kG F.fmt v0 v1 v2' v3' v4' L' ++ frX v0 wg wb wu wp wm wh y up L' (ofT up (H, b) e).1 (ofT up (H, b) e).2⟩ := by
 refine XO 25 (zL _) (Xe hT QO (by simp [Yx]) (Qu 1000 ?_))
 simp only [prV, prC, frX]
 simp -implicitDefEqProofs (disch := omega) only [go_sem, ↓reduceIte, reduceCtorEq, rA, rq, zA, lR, Yx, Qzv, Qzu, Qzt, Qzs, Qzr, Qzq, Qzp, Qex, Qec, Qeb, false_implies, and_true, lC, lN, cA, nA, aA, lA, tS, tN, List.drop_zero]
 refine call hT Qo (QmJ hT hf e (k := 19) (w := wu) (base := 0) (by simp only [Zq, lC]; omega) rfl (zL _)) 1000 fun v σ hv => ?_
 obtain ⟨rfl, t1, ht1, rfl⟩ := hv
 have hkk := fun (L : List Nd) => QDb L H (Qj up e)
 have hnl : Qd (V.agg [.int .i64 (Qj up e).v, .int .u8 (Qj up e).k, .int .i64 (Qj up e).n]) = true := rfl
 simp only [prV, prC]
 cases hg : Re.get H (Qj up e) with
 | some tm =>
   have ho := Qnq L H (Qj up e)
   rw [hg, Option.map_some] at ho
   have hof : ofT up (H, b) e = (H, b) := by unfold ofT; rw [hg]; rfl
   have hmem : Hs L (tmN tm) := by
    unfold Re.get at hg
    cases hfi : H.find? fun x => decide (x.1 = Qj up e) with
    | none => rw [hfi] at hg; simp at hg
    | some p => rw [hfi] at hg; simp at hg; subst hg; exact hA p (List.mem_of_find?_eq_some hfi)
   simp -implicitDefEqProofs (disch := omega) only [go_sem, ↓reduceIte, reduceCtorEq, rA, rq, rL, rT, zA, nT, nF, lR, zL, Option.isSome_some, Option.getD_some, Qex, Qc3, Qcv, QeY, Qa5, false_implies, true_implies, true_and, and_true, nT, nF, lC, lN, cA, nA, aA, lA, tS, tZ, tN, List.drop_succ_cons, List.drop_zero, List.drop_nil, ho, hkk]
   rw [hof]
   first | exact ⟨tm, L, _, v2, v3, v4, hg, Ext.refl L, by omega, hA, hmem, by omega, rfl, rfl, rfl⟩ | exact ⟨tm, L, _, v2, v3, v4, hg, Ext.refl L, by omega, hA, hmem, by omega, rfl, rfl⟩
 | none =>
   have ho := Qnq L H (Qj up e)
   rw [hg, Option.map_none] at ho
   have hof : ofT up (H, b) e = (H ++ [(Qj up e, .s b)], b + 1) := by unfold ofT; rw [hg]; rfl
   have hg2 : Re.get (H ++ [(Qj up e, Tm.s b)]) (Qj up e) = some (.s b) := by rw [Qfy hg, if_pos rfl]
   have e1 : IntKind.i64.wrap (b + 1) = b + 1 := QtU (by omega)
   simp -implicitDefEqProofs (disch := omega) only [go_sem, ↓reduceIte, reduceCtorEq, rA, rq, rT, zA, nF, lR, zL, Option.isSome_none, Option.getD_none, Qex, QlV, Qdw, Qc3, Qcv, QeY, Qa5, false_implies, true_implies, and_true, nF, lC, lN, cA, nA, aA, lA, tS, tZ, tN, List.drop_succ_cons, List.drop_zero, List.drop_nil, ho, hkk]
   repeat' (first | with_reducible refine And.intro ?_ ?_)
   all_goals (
    refine call hT QhK (k_Sym hT F (n := b) (by unfold i64; omega) hb.1 (by omega)) 1000 fun v σ hv => ?_
    obtain ⟨L2, t2, w2, w3, w4, x1, x2, x3, x4, rfl, rfl⟩ := hv
    have hput := QzW L2 H (Qj up e) (.s b) hg
    have ho2 := Qnq L2 (H ++ [(Qj up e, Tm.s b)]) (Qj up e)
    have hk2 := QDb L2 (H ++ [(Qj up e, Tm.s b)]) (Qj up e)
    rw [hg2, Option.map_some] at ho2
    simp only [tmN] at hput ho2
    rw [QuP hA x1]
    simp -implicitDefEqProofs (disch := omega) only [go_sem, ↓reduceIte, reduceCtorEq, rA, rq, rL, zA, nF, lR, zL, Option.getD_some, Qex, Qdw, Qa6, Qc3, Qaz, Qcv, QeY, false_implies, true_implies, true_and, and_true, nF, lC, lN, cA, nA, lA, tS, tZ, tN, List.drop_succ_cons, List.drop_zero, List.drop_nil, hkk, hk2, hput, ho2, hnl, e1]
    rw [hof]
    exact ⟨.s b, L2, _, w2, w3, w4, hg2, x1, x3, (hA.ext x1).snoc x2, x2, by omega, rfl, rfl, rfl⟩)
theorem Qum (r : Nat → Nat) (L : List Nd) (b : Int) (k : Nat) : QcT r (QeK L b k) = QeK L b k := by
 unfold QeK
 induction (List.range 32) with
 | nil => rfl
 | cons x l ih => rw [List.map_cons, QcT, ih]; rfl
theorem Qsb (r : Nat → Nat) (L : List Nd) (b : Int) (k : Nat) : QcT r (Zo L b k) = Zo L b k := by
 unfold Zo
 induction (List.range k) with
 | nil => rfl
 | cons x l ih => rw [List.map_cons, QcT, ih]; rfl
theorem Qq8 (r : Nat → Nat) : ∀ a b : List V, QcT r (a ++ b) = QcT r a ++ QcT r b
 | [], b => by simp [QcT]
 | x :: a, b => by rw [cA, QcT, QcT, Qq8 r a b]; rfl
theorem fn_nl (m : Nat) : Qb (fnC m) = true := by simp [fnC, Qb, Qd]
theorem Qz1 (r : Nat → Nat) (m : Nat) : QcT r (fnC m) = fnC m := Xs _ (fn_nl m)
theorem Qz0 (k m : Nat) : XH k (fnC m) = true := QJ _ (fn_nl m)
theorem Qxj (hT : Qw P tab) (F : Fmt P G) {v0 v1 v2 v3 v4 t : Nat} {L : List Nd} (m : Nat) (hm : m ≤ 4) (params next : Int) (hn : next ≤ 1099511627776) (hL : L.length ≤ 10000) (ex : List (Option Ob)) :
 C P G 0 QeX [.ptr 1 v0 0, .agg (fnC m), .int .i64 params, .int .i64 next] ⟨t, kG F.fmt v0 v1 v2 v3 v4 L ++ ex⟩ fun v σ => ∃ L' t' v2' v3' v4' ws, Ext L L' ∧ L'.length ≤ L.length + 60 ∧ AllR L' (max 0 next) 32 ∧ AllS L' (max 0 next) (QbP m params) ∧
   v = .tup [.agg (stC L' (max 0 next) 32 (.sl (10 + ex.length) ws 0 1 (QbP m params) none) (decide (m = 0))), .int .i64 (max 0 next + 30 + (QbP m params : Nat))] ∧ σ = ⟨t', kG F.fmt v0 v1 v2' v3' v4' L' ++ (ex ++ [none, none, none, none, none, some (.arr ws 44 (Zo L' (max 0 next) (QbP m params)))])⟩ := by
 refine QqL [0, 1, 2, 3, 4] (QDL hT F (v0 := v0) (v1 := v1) (v2 := v2) (v3 := v3) (v4 := v4) m hm params next hn hL) rfl (by decide) ?_ ?_ ?_ (zL _) ?_ ?_ fun v σ hv => ?_
 ·simp [Qp8, kG]
 ·simp [Qot, kG, Ob.under, XH, V.under, Ob.ren, QcT, V.ren, rOf, QbB, Qfx, Qc2, Qh1, Qgt, -List.all_eq_true, Qc6]
 ·simp [QDP]
 ·simp [XH, V.under, Qz0, kG]
 ·simp only [QcT, V.ren, Qz1]
  simp [rOf]
 ·obtain ⟨L', t', v2', v3', v4', ws, h1, h2, h3, h4, rfl, rfl⟩ := hv
  refine ⟨by simp [kG], L', t', v2', v3', v4', ws, h1, h2, h3, h4, ?_, ?_⟩
  ·simp only [V.ren, QcT, stC, Qq8, Qum]
   simp [rOf, kG]
   omega
  ·simp [Qd2, QcR, kG, Ob.ren, QcT, V.ren, rOf, QbB, Qfx, Qc2, Qsb]
theorem Z0 (o z : List (Option Ob)) : Xr o (o ++ z) := by
 have := Z1 o.length (o ++ z)
 rwa [List.take_left'] at this
 rfl
theorem QpI (hT : Qw P tab) {o : List (Option Ob)} {wv w15 : Nat} {vars : Int} {cnt : Nat} {L : List Nd} {b : Int} {k j w14 : Nat} {sure : Bool} (h6 : o[6]? = some (some (.arr wv 3 [.int .i64 vars]))) (h15 : o[15]? = some (some (.arr w15 47 (stC L b k (.sl j w14 0 1 cnt none) sure)))) (l : List Pr) :
 QmQ P G 0 (.fn (.func QcY) [] [.ptr 6 wv 0, .ptr 15 w15 0]) o (fun p => !Zw vars cnt p) l := fun t p hp => by
 have g6 : ∀ l : List (Option Ob), (o ++ l)[6]? = some (some (.arr wv 3 [.int .i64 vars])) := fun l => by rw [List.getElem?_append_left (List.getElem?_eq_some_iff.1 h6).1, h6]
 have g15 : ∀ l : List (Option Ob), (o ++ l)[15]? = some (some (.arr w15 47 (stC L b k (.sl j w14 0 1 cnt none) sure))) := fun l => by rw [List.getElem?_append_left (List.getElem?_eq_some_iff.1 h15).1, h15]
 have hth := QDF (P := P) (G := G) hT p vars cnt
 have htk : ∀ l : List (Option Ob), List.take o.length (o ++ l) = o := fun l => by simp
 have hl := Qgi L b k (.sl j w14 0 1 cnt none) sure
 simp only [prV, prC] at hth ⊢
 refine CV.of hT QcP (XO o.length (zL _) (Xe hT QcP (by simp [Yy]) (Qu 1000 ?_)))
 simp -implicitDefEqProofs (disch := omega) only [go_sem, ↓reduceIte, reduceCtorEq, rA, rq, rL, zA, lR, Yy, QzC, QzB, ga0, lC, lN, List.getElem?_cons_zero, tS, tN, g6, g15, hl]
 refine XS hT QfZ hth rfl 1000 ?_
 simp -implicitDefEqProofs (disch := omega) only [go_sem, ↓reduceIte, reduceCtorEq, rq, zA, lA, lC, lN, htk]
 exact ⟨by omega, _, by omega, rfl⟩
def frA (v0 wg wb wu wp w21 : Nat) (y : Nat → Option Ob) (up : List (Pr × Pr)) (ps : List Pr) (cells : List V) (b : Int) : List (Option Ob) := [some (.arr wg 41 [.ptr 1 v0 0]), y 6, y 7, y 8, y 9, y 10, y 11, y 12, y 13, y 14, y 15, some (.arr wb 2 [.int .i64 b]), y 17, y 18, some (.map wu (upV up)), some (.arr wp 96 [.mp 19 wu]), some (.arr w21 64 (fl prC ps ++ cells))]
theorem QuW (hT : Qw P tab) {fmt : Int → List UInt8} {v0 v1 v2 v3 v4 wg wb wu wp w21 w8 kW wW t i : Nat} {y : Nat → Option Ob} {up : List (Pr × Pr)} {ps : List Pr} {cells : List V} {b : Int} {L : List Nd} {x : Pr} (hf : Fst up) (hl : ps.length ≤ 1000) (hx : ps[i]? = some x) :
 W P G 157 0 (AC.seq (AC.reg Qcm [])   (AC.seq (AC.cond (Arg.t 52)   AC.skip   (AC.exit 0))   (AC.seq (AC.block 1 (AC.seq (AC.reg QcM [53, 54])   (AC.reg QcL [55, 56, 57, 58, 59, 60, 61, 62])))   (AC.reg QcK [63])))) [(1, .sl 21 w21 0 3 ps.length none), (6, .ptr 5 wg 0), (12, .ptr 8 w8 0), (15, .ptr 16 wb 0), (16, .ptr kW wW 0), (17, .ptr 20 wp 0), (49, .sl 21 w21 0 3 ps.length none), (50, .int .i64 ((ps.length : Nat) : Int)), (51, .int .i64 ((i : Nat) : Int))] ⟨t, kG fmt v0 v1 v2 v3 v4 L ++ frA v0 wg wb wu wp w21 y up ps cells b⟩
   (Qg5 (fun fr σ => ∃ fr' σ', Shift G 157 0 fr σ fr' σ' ∧ QF fr' [(1, .sl 21 w21 0 3 ps.length none), (6, .ptr 5 wg 0), (12, .ptr 8 w8 0), (15, .ptr 16 wb 0), (16, .ptr kW wW 0), (17, .ptr 20 wp 0), (49, .sl 21 w21 0 3 ps.length none), (50, .int .i64 ((ps.length : Nat) : Int)), (51, .int .i64 ((i + 1 : Nat) : Int))] ∧ ∃ t', σ' = ⟨t', kG fmt v0 v1 v2 v3 v4 L ++ frA v0 wg wb wu wp w21 y (joinL up (vE x.v) (pE x)) ps cells b⟩) fun e fr σ => False) := by
 have hlt := (List.getElem?_eq_some_iff.1 hx).1
 have hD := ZG hx cells
 have hsz : i * 3 + 3 ≤ ps.length * 3 + cells.length := by omega
 have e2 := Qa8 hlt (by omega)
 simp only [frA] at hD ⊢
 refine Qu 12 ?_
 simp -implicitDefEqProofs (disch := omega) only [go_sem, Qe, ↓reduceIte, rq, zA, decide_true, Qcm, QcM, QcL, QcK, and_true, decide_true, hlt]
 iterate 10 (try (refine Qc 4 ?_; simp -implicitDefEqProofs (disch := omega) only [go_sem, ↓reduceIte, reduceCtorEq, rA, rq, rL, zA, aZ, nF, lR, zL, QA, Qex, Qec, QbZ, Qc3, Qaz, false_implies, true_implies, and_true, nF, lC, lN, cA, nA, aA, lA, tS, tZ, tN, List.drop_succ_cons, List.drop_zero, List.drop_nil, hD, hsz]))
 refine call hT XP (c_join hT hf (vE x.v) (pE x) (k := 19) (w := wu) (base := 0) (by simp only [Zq, lC]; omega) (zL _) rfl) 12 fun v σ hv => ?_
 obtain ⟨rfl, t1, ht1, rfl⟩ := hv
 simp -implicitDefEqProofs (disch := omega) only [go_sem, ↓reduceIte, rq, QbF]
 iterate 10 (try (refine Qc 4 ?_; simp -implicitDefEqProofs (disch := omega) only [go_sem, Qe, ↓reduceIte, reduceCtorEq, rA, rq, rL, rT, Nat.reduceSub, Nat.reduceMul, Int.reduceToNat, Int.reduceLE, Int.reduceLT, Int.reduceEq, Int.reduceNe, Nat.succ_ne_zero, zA, aZ, Nat.mul_one, Nat.one_mul, Nat.zero_mul, decide_true, decide_false, nT, nF, lR, zL, ge_iff_le, gt_iff_lt, Nat.reduceBEq, Nat.reduceBNe, beq_self_eq_true, bne_self_eq_false, Option.isSome_some, Option.isSome_none, Option.getD_some, Option.getD_none, Ye, QA, relate_Fresh, Qdj, Qdi, Qdh, Qdg, Qdf, Qde, Qcm, QcM, QcL, QcK, Zv, Zu, Y0, Zn, Zm, Zl, Zk, Zj, Zi, Zh, Zg, YZ, Yo, Yv, Yu, Yt, Zt, Xq, XE, XD, XC, XB, XA, Xz, Xy, ZU, Qex, QlV, Qgu, Qor, Qho, QnW, QfI, Qoq, Qe0, QlU, Qc4, Qgv, QbH, Qhn, Qck, Qhm, Qcj, Qhl, Qci, QfH, Qa7, QfG, QbG, Qdw, Qa6, QaV, ZX, QaU, ZW, Qhk, QbF, Qec, QbE, QbZ, Qch, Qc3, Qaz, Qcv, QbD, Qac, Y5, Qeb, QbC, QeY, Qa5, Qhj, Qcg, Qhi, Qcf, Zq, QbI, false_implies, true_implies, true_and, and_true, not_true_eq_false, not_false_eq_true, Int.reduceBEq, nT, nF, decide_true, decide_false, lC, lN, cA, nA, aA, lA, List.getElem?_cons_zero, List.getElem?_cons_succ, List.set_cons_zero, List.set_cons_succ, tS, tZ, tN, List.drop_succ_cons, List.drop_zero, List.drop_nil, e2]))
 refine ⟨_, _, Shift.drop (o' := kG fmt v0 v1 v2 v3 v4 L ++ frA v0 wg wb wu wp w21 y (joinL up (vE x.v) (pE x)) ps cells b) (t' := t1) ?_ (lR _) (zL _), ?_, t1, ?_⟩
 ·exact Z0 (kG fmt v0 v1 v2 v3 v4 L ++ frA v0 wg wb wu wp w21 y (joinL up (vE x.v) (pE x)) ps cells b) [_]
 ·simp only [QF]; simp -implicitDefEqProofs (disch := omega) only [go_sem, ↓reduceIte, rq, and_true, e2]
 ·rfl
def frH (wm wh : Nat) (L : List Nd) (H : List (Pr × Tm)) : List (Option Ob) := [some (.map wm (hoV L H)), some (.arr wh 101 [.mp 22 wm])]
theorem QuV (hT : Qw P tab) (F : Fmt P G) {v0 v1 v2 v3 v4 wg wb wu wp wm wh w21 w8 kW wW t i : Nat} {y : Nat → Option Ob} {up : List (Pr × Pr)} {ps : List Pr} {cells : List V} {b : Int} {L : List Nd} {H : List (Pr × Tm)} {x : Pr} (hf : Fst up) (hl : ps.length ≤ 1000) (hx : ps[i]? = some x) (hL : L.length ≤ 100000) (hA : AllH L H) (hxn : i64 x.n) :
 W P G 157 0 (AC.seq (AC.reg Y0 [])   (AC.seq (AC.cond (Arg.t 68)   AC.skip   (AC.exit 2))   (AC.seq (AC.block 3 (AC.seq (AC.reg Zn [69, 70])   (AC.seq (AC.reg Zm [71, 72, 73, 74, 75])   (AC.seq (AC.reg Zl [77, 78, 79, 76, 80, 81, 24])   (AC.seq (AC.reg Zk [82, 83, 84, 85, 86, 87, 88])   (AC.cond (Arg.t 89)   (AC.reg Zj [90, 91, 92, 93, 94, 95, 96])   AC.skip))))))   (AC.reg Zi [97])))) [(1, .sl 21 w21 0 3 ps.length none), (6, .ptr 5 wg 0), (12, .ptr 8 w8 0), (15, .ptr 16 wb 0), (16, .ptr kW wW 0), (17, .ptr 20 wp 0), (20, .ptr 23 wh 0), (65, .sl 21 w21 0 3 ps.length none), (66, .int .i64 ((ps.length : Nat) : Int)), (67, .int .i64 ((i : Nat) : Int))] ⟨t, kG F.fmt v0 v1 v2 v3 v4 L ++ (frA v0 wg wb wu wp w21 y up ps cells b ++ frH wm wh L H)⟩
   (Qg5 (fun fr σ => ∃ fr' σ', Shift G 157 0 fr σ fr' σ' ∧ QF fr' [(1, .sl 21 w21 0 3 ps.length none), (6, .ptr 5 wg 0), (12, .ptr 8 w8 0), (15, .ptr 16 wb 0), (16, .ptr kW wW 0), (17, .ptr 20 wp 0), (20, .ptr 23 wh 0), (65, .sl 21 w21 0 3 ps.length none), (66, .int .i64 ((ps.length : Nat) : Int)), (67, .int .i64 ((i + 1 : Nat) : Int))] ∧ ∃ L' t' v2' v3' v4', Ext L L' ∧ L'.length ≤ L.length + 1 ∧ AllH L' (QaP up H x) ∧ σ' = ⟨t', kG F.fmt v0 v1 v2' v3' v4' L' ++ (frA v0 wg wb wu wp w21 y up ps cells b ++ frH wm wh L' (QaP up H x))⟩) fun e fr σ => False) := by
 have hlt := (List.getElem?_eq_some_iff.1 hx).1
 have hD := ZG hx cells
 have hsz : i * 3 + 3 ≤ ps.length * 3 + cells.length := by omega
 have e2 := Qa8 hlt (by omega)
 simp only [frA, frH, cA, nA] at hD ⊢
 refine Qu 12 ?_
 simp -implicitDefEqProofs (disch := omega) only [go_sem, Qe, ↓reduceIte, rq, zA, decide_true, Y0, Zn, Zm, Zl, Zk, Zj, Zi, and_true, decide_true, hlt]
 iterate 10 (try (refine Qc 4 ?_; simp -implicitDefEqProofs (disch := omega) only [go_sem, ↓reduceIte, reduceCtorEq, rA, rq, rL, zA, aZ, nF, lR, zL, QA, Qex, Qec, QbZ, Qac, Y5, false_implies, true_implies, and_true, nF, lC, lN, cA, nA, aA, lA, tS, tZ, tN, List.drop_succ_cons, List.drop_zero, List.drop_nil, hD, hsz]))
 refine call hT Qo (QmJ hT hf (vE x.v) (k := 19) (w := wu) (base := 0) (by simp only [Zq, lC]; omega) rfl (zL _)) 12 fun v σ hv => ?_
 obtain ⟨rfl, t1, ht1, rfl⟩ := hv
 have hkk := fun (L : List Nd) => QDb L H (Qj up (vE x.v))
 have ho := Qnq L H (Qj up (vE x.v))
 have hnl : Qd (V.agg [.int .i64 (Qj up (vE x.v)).v, .int .u8 (Qj up (vE x.v)).k, .int .i64 (Qj up (vE x.v)).n]) = true := rfl
 simp only [prV, prC]
 simp -implicitDefEqProofs (disch := omega) only [go_sem, ↓reduceIte, reduceCtorEq, rA, rq, rT, zA, nF, lR, zL, Qex, Qc3, Qcv, Qeb, QbC, false_implies, true_implies, and_true, nF, lC, lN, cA, nA, aA, lA, tS, tZ, tN, List.drop_succ_cons, List.drop_zero, List.drop_nil, hkk]
 cases hg : Re.get H (Qj up (vE x.v)) with
 | some tm =>
   rw [hg, Option.map_some] at ho
   have hst : QaP up H x = H := by unfold QaP; rw [hg]; simp
   rw [hst]
   iterate 10 (try (refine Qc 4 ?_; simp -implicitDefEqProofs (disch := omega) only [go_sem, ↓reduceIte, rq, nT, Option.isSome_some, Option.getD_some, nT, ho]))
   iterate 10 (try (refine Qc 4 ?_; simp -implicitDefEqProofs (disch := omega) only [go_sem, Qe, ↓reduceIte, reduceCtorEq, rA, rq, rL, rT, Nat.reduceSub, Nat.reduceMul, Int.reduceToNat, Int.reduceLE, Int.reduceLT, Int.reduceEq, Int.reduceNe, Nat.succ_ne_zero, zA, aZ, Nat.mul_one, Nat.one_mul, Nat.zero_mul, decide_true, decide_false, nT, nF, lR, zL, ge_iff_le, gt_iff_lt, Nat.reduceBEq, Nat.reduceBNe, beq_self_eq_true, bne_self_eq_false, Option.isSome_some, Option.isSome_none, Option.getD_some, Option.getD_none, Ye, QA, relate_Fresh, Qdj, Qdi, Qdh, Qdg, Qdf, Qde, Qcm, QcM, QcL, QcK, Zv, Zu, Y0, Zn, Zm, Zl, Zk, Zj, Zi, Zh, Zg, YZ, Yo, Yv, Yu, Yt, Zt, Xq, XE, XD, XC, XB, XA, Xz, Xy, ZU, Qex, QlV, Qgu, Qor, Qho, QnW, QfI, Qoq, Qe0, QlU, Qc4, Qgv, QbH, Qhn, Qck, Qhm, Qcj, Qhl, Qci, QfH, Qa7, QfG, QbG, Qdw, Qa6, QaV, ZX, QaU, ZW, Qhk, QbF, Qec, QbE, QbZ, Qch, Qc3, Qaz, Qcv, QbD, Qac, Y5, Qeb, QbC, QeY, Qa5, Qhj, Qcg, Qhi, Qcf, Zq, QbI, false_implies, true_implies, true_and, and_true, not_true_eq_false, not_false_eq_true, Int.reduceBEq, nT, nF, decide_true, decide_false, lC, lN, cA, nA, aA, lA, List.getElem?_cons_zero, List.getElem?_cons_succ, List.set_cons_zero, List.set_cons_succ, tS, tZ, tN, List.drop_succ_cons, List.drop_zero, List.drop_nil, ho, hkk, e2]))
   refine ⟨_, _, Shift.drop (o' := kG F.fmt v0 v1 v2 v3 v4 L ++ (frA v0 wg wb wu wp w21 y up ps cells b ++ frH wm wh L H)) (Z0 (kG F.fmt v0 v1 v2 v3 v4 L ++ (frA v0 wg wb wu wp w21 y up ps cells b ++ frH wm wh L H)) [_, _]) (lR _) (zL _), ?_, L, _, v2, v3, v4, Ext.refl L, by omega, hA, rfl⟩
   simp only [QF]; simp -implicitDefEqProofs (disch := omega) only [go_sem, ↓reduceIte, rq, and_true, e2]
 | none =>
   rw [hg, Option.map_none] at ho
   by_cases h3 : x.k = 3
   ·have h3' : (x.k == 3) = true := by simp [h3]
    have hst : QaP up H x = H ++ [(Qj up (vE x.v), .c x.n)] := by unfold QaP; rw [hg]; simp [h3]
    rw [hst]
    iterate 10 (try (refine Qc 4 ?_; simp -implicitDefEqProofs (disch := omega) only [go_sem, ↓reduceIte, rA, rq, rL, zA, aZ, nF, lR, Option.isSome_none, Option.getD_none, QlV, Qac, true_implies, and_true, nF, lC, lN, ho, h3']))
    have hput := fun (L : List Nd) => QzW L H (Qj up (vE x.v)) (.c x.n) hg
    simp only [tmN] at hput
    obtain ⟨H2, hH2⟩ : ∃ H2, H2 = H ++ [(Qj up (vE x.v), Tm.c x.n)] := ⟨_, rfl⟩
    simp only [← hH2] at hput ⊢
    repeat' (first | with_reducible refine And.intro ?_ ?_ | (refine Qc 12 ?_; simp -implicitDefEqProofs (disch := omega) only [go_sem, ↓reduceIte, reduceCtorEq, rA, rq, zA, lR, Qcv, Qeb, false_implies, true_implies, and_true, lC, lN, tS, tN, List.drop_zero]))
    all_goals
     refine call hT Qca (Qqb hT F (L := L) hxn (by omega)) 12 fun v σ hv => ?_
     obtain ⟨L2, t2, w2, w3, w4, x1, x2, x3, x4, rfl, rfl⟩ := hv
     have hk2 := QuP hA x1
     have hkk2 := hkk L2
     simp -implicitDefEqProofs (disch := omega) only [go_sem, ↓reduceIte, reduceCtorEq, rA, rq, zA, nF, lR, zL, Qc3, Qaz, Qcv, Qeb, false_implies, true_implies, and_true, nF, lC, lN, tS, tN, List.drop_zero, hkk, hput, hnl, hk2]
     iterate 10 (try (refine Qc 4 ?_; simp -implicitDefEqProofs (disch := omega) only [go_sem, Qe, ↓reduceIte, reduceCtorEq, rA, rq, rL, rT, Nat.reduceSub, Nat.reduceMul, Int.reduceToNat, Int.reduceLE, Int.reduceLT, Int.reduceEq, Int.reduceNe, Nat.succ_ne_zero, zA, aZ, Nat.mul_one, Nat.one_mul, Nat.zero_mul, decide_true, decide_false, nT, nF, lR, zL, ge_iff_le, gt_iff_lt, Nat.reduceBEq, Nat.reduceBNe, beq_self_eq_true, bne_self_eq_false, Option.isSome_some, Option.isSome_none, Option.getD_some, Option.getD_none, Ye, QA, relate_Fresh, Qdj, Qdi, Qdh, Qdg, Qdf, Qde, Qcm, QcM, QcL, QcK, Zv, Zu, Y0, Zn, Zm, Zl, Zk, Zj, Zi, Zh, Zg, YZ, Yo, Yv, Yu, Yt, Zt, Xq, XE, XD, XC, XB, XA, Xz, Xy, ZU, Qex, QlV, Qgu, Qor, Qho, QnW, QfI, Qoq, Qe0, QlU, Qc4, Qgv, QbH, Qhn, Qck, Qhm, Qcj, Qhl, Qci, QfH, Qa7, QfG, QbG, Qdw, Qa6, QaV, ZX, QaU, ZW, Qhk, QbF, Qec, QbE, QbZ, Qch, Qc3, Qaz, Qcv, QbD, Qac, Y5, Qeb, QbC, QeY, Qa5, Qhj, Qcg, Qhi, Qcf, Zq, QbI, false_implies, true_implies, true_and, and_true, not_true_eq_false, not_false_eq_true, Int.reduceBEq, nT, nF, decide_true, decide_false, lC, lN, cA, nA, aA, lA, List.getElem?_cons_zero, List.getElem?_cons_succ, List.set_cons_zero, List.set_cons_succ, tS, tZ, tN, List.drop_succ_cons, List.drop_zero, List.drop_nil, hkk, hput, hnl, hk2]))
     refine ⟨_, _, Shift.drop (o' := kG F.fmt v0 v1 w2 w3 w4 L2 ++ (frA v0 wg wb wu wp w21 y up ps cells b ++ frH wm wh L2 H2)) (Z0 (kG F.fmt v0 v1 w2 w3 w4 L2 ++ (frA v0 wg wb wu wp w21 y up ps cells b ++ frH wm wh L2 H2)) [_, _]) (lR _) (zL _), ?_, L2, _, w2, w3, w4, x1, x3, hH2 ▸ (hA.ext x1).snoc x2, rfl⟩
     simp only [QF]; simp -implicitDefEqProofs (disch := omega) only [go_sem, ↓reduceIte, rq, and_true, e2]
   ·have h3' : (x.k == 3) = false := by simpa using h3
    have hst : QaP up H x = H := by unfold QaP; rw [hg]; simp [h3]
    rw [hst]
    iterate 10 (try (refine Qc 4 ?_; simp -implicitDefEqProofs (disch := omega) only [go_sem, ↓reduceIte, rA, rq, rL, zA, aZ, nF, Option.isSome_none, Option.getD_none, Qac, true_implies, and_true, nF, lC, lN, ho, h3']))
    iterate 10 (try (refine Qc 4 ?_; simp -implicitDefEqProofs (disch := omega) only [go_sem, Qe, ↓reduceIte, reduceCtorEq, rA, rq, rL, rT, Nat.reduceSub, Nat.reduceMul, Int.reduceToNat, Int.reduceLE, Int.reduceLT, Int.reduceEq, Int.reduceNe, Nat.succ_ne_zero, zA, aZ, Nat.mul_one, Nat.one_mul, Nat.zero_mul, decide_true, decide_false, nT, nF, lR, zL, ge_iff_le, gt_iff_lt, Nat.reduceBEq, Nat.reduceBNe, beq_self_eq_true, bne_self_eq_false, Option.isSome_some, Option.isSome_none, Option.getD_some, Option.getD_none, Ye, QA, relate_Fresh, Qdj, Qdi, Qdh, Qdg, Qdf, Qde, Qcm, QcM, QcL, QcK, Zv, Zu, Y0, Zn, Zm, Zl, Zk, Zj, Zi, Zh, Zg, YZ, Yo, Yv, Yu, Yt, Zt, Xq, XE, XD, XC, XB, XA, Xz, Xy, ZU, Qex, QlV, Qgu, Qor, Qho, QnW, QfI, Qoq, Qe0, QlU, Qc4, Qgv, QbH, Qhn, Qck, Qhm, Qcj, Qhl, Qci, QfH, Qa7, QfG, QbG, Qdw, Qa6, QaV, ZX, QaU, ZW, Qhk, QbF, Qec, QbE, QbZ, Qch, Qc3, Qaz, Qcv, QbD, Qac, Y5, Qeb, QbC, QeY, Qa5, Qhj, Qcg, Qhi, Qcf, Zq, QbI, false_implies, true_implies, true_and, and_true, not_true_eq_false, not_false_eq_true, Int.reduceBEq, nT, nF, decide_true, decide_false, lC, lN, cA, nA, aA, lA, List.getElem?_cons_zero, List.getElem?_cons_succ, List.set_cons_zero, List.set_cons_succ, tS, tZ, tN, List.drop_succ_cons, List.drop_zero, List.drop_nil, ho, hkk, h3', e2]))
    refine ⟨_, _, Shift.drop (o' := kG F.fmt v0 v1 v2 v3 v4 L ++ (frA v0 wg wb wu wp w21 y up ps cells b ++ frH wm wh L H)) (Z0 (kG F.fmt v0 v1 v2 v3 v4 L ++ (frA v0 wg wb wu wp w21 y up ps cells b ++ frH wm wh L H)) [_, _]) (lR _) (zL _), ?_, L, _, v2, v3, v4, Ext.refl L, by omega, hA, rfl⟩
    simp only [QF]; simp -implicitDefEqProofs (disch := omega) only [go_sem, ↓reduceIte, rq, and_true, e2]
def QaK (L : List Nd) (up : List (Pr × Pr)) (H : List (Pr × Tm)) (e : Pr) : Int := match Re.get H (Qj up e) with | some t => Qad L (tmN t) | none => 0
theorem X1 {L : List Nd} {up : List (Pr × Pr)} {H : List (Pr × Tm)} {e : Pr} {t : Tm} (h : Re.get H (Qj up e) = some t) : QaK L up H e = Qad L (tmN t) := by unfold QaK; rw [h]
theorem get_mem {H : List (Pr × Tm)} {r : Pr} {t : Tm} (h : Re.get H r = some t) : ∃ p ∈ H, p.2 = t := by
 unfold Re.get at h
 cases hfi : H.find? fun x => decide (x.1 = r) with
 | none => rw [hfi] at h; simp at h
 | some p => rw [hfi] at h; simp at h; exact ⟨p, List.mem_of_find?_eq_some hfi, h⟩
theorem AllH.get {L : List Nd} {H : List (Pr × Tm)} (hA : AllH L H) {r : Pr} {t : Tm} (h : Re.get H r = some t) : Hs L (tmN t) := by
 obtain ⟨p, hp, rfl⟩ := get_mem h; exact hA p hp
theorem QkR {L L' : List Nd} {up : List (Pr × Pr)} {S : List (Pr × Tm) × Int} {e : Pr} (hA : AllH L S.1) (hE : Ext L L') (h : (Re.get S.1 (Qj up e)).isSome) (f : Pr) : QaK L' up (ofT up S f).1 e = QaK L up S.1 e := by
 obtain ⟨t, ht⟩ := Option.isSome_iff_exists.1 h
 rw [X1 ht, X1 (Qre up S f ht), Qdx (hA.get ht) hE]
def YE (L : List Nd) (up : List (Pr × Pr)) (H : List (Pr × Tm)) (i n : Nat) : List V := (List.range n).map fun j : Nat => .int .i64 (if j < i then QaK L up H (vE ((j : Nat) : Int)) else 0)
theorem QjH (L : List Nd) (up : List (Pr × Pr)) (H : List (Pr × Tm)) (i n : Nat) : (YE L up H i n).length = n := by simp [YE]
theorem QtY (L : List Nd) (up : List (Pr × Pr)) (H : List (Pr × Tm)) (i n : Nat) (j : Nat) (h : j < (YE L up H i n).length) : (YE L up H i n)[j] = .int .i64 (if j < i then QaK L up H (vE ((j : Nat) : Int)) else 0) := by
 have h' : j < ((List.range n).map fun j : Nat => V.int .i64 (if j < i then QaK L up H (vE ((j : Nat) : Int)) else 0)).length := h
 show ((List.range n).map fun j : Nat => V.int .i64 (if j < i then QaK L up H (vE ((j : Nat) : Int)) else 0))[j]'h' = _
 rw [List.getElem_map, List.getElem_range]
theorem QqT {L L' : List Nd} {up : List (Pr × Pr)} {S : List (Pr × Tm) × Int} {i n : Nat} (hi : i < n) (hA : AllH L S.1) (hE : Ext L L') (h : ∀ j, j < i → (Re.get S.1 (Qj up (vE ((j : Nat) : Int)))).isSome) (f : Pr) {x : Int} (hx : x = QaK L' up (ofT up S f).1 (vE ((i : Nat) : Int))) :
 (YE L up S.1 i n).take i ++ V.int .i64 x :: (YE L up S.1 i n).drop (i + 1) = YE L' up (ofT up S f).1 (i + 1) n := by
 have e : (YE L up S.1 i n).take i ++ V.int .i64 x :: (YE L up S.1 i n).drop (i + 1) = (YE L up S.1 i n).set i (.int .i64 x) := by
  rw [List.set_eq_take_append_cons_drop, if_pos (by rw [QjH]; exact hi)]
 rw [e]
 refine List.ext_getElem (by simp [YE]) fun j h1 h2 => ?_
 rw [List.length_set, QjH] at h1
 rw [List.getElem_set]
 rw [QtY, QtY]
 by_cases hj : i = j
 ·subst hj; rw [if_pos rfl, if_pos (by omega), hx]
 ·rw [if_neg hj]
  by_cases hlt : j < i
  ·rw [if_pos hlt, if_pos (by omega), QkR hA hE (h j hlt) f]
  ·rw [if_neg hlt, if_neg (by omega)]
def yW (y : Nat → Option Ob) (kV kW : Nat) (vr wo : Option Ob) : Nat → Option Ob := fun i => if i = kV then vr else if i = kW then wo else y i
abbrev ofV (wp wh wg wb : Nat) : V := .fn (.func Qab) [] [.ptr 20 wp 0, .ptr 23 wh 0, .ptr 5 wg 0, .ptr 16 wb 0]
theorem QuU (hT : Qw P tab) (F : Fmt P G) {v0 v1 v2 v3 v4 wg wb wu wp wm wh w21 nps w8 kV kW wV wW t i n : Nat} {y : Nat → Option Ob} {rest : List V} {up : List (Pr × Pr)} {b : Int} {L : List Nd} {H : List (Pr × Tm)}
 (hk : kV = 17 ∧ kW = 18 ∨ kV = 18 ∧ kW = 17) (hf : Fst up) (hA : AllH L H) (hb : 0 ≤ b ∧ b ≤ 2199023255552) (hL : L.length ≤ 100000) (hi : i < n) (hn : n ≤ 10) (hr : rest.length = 35) (hall : ∀ j, j < i → (Re.get H (Qj up (vE ((j : Nat) : Int)))).isSome) :
 W P G 157 0 (AC.seq (AC.reg Yo [])   (AC.seq (AC.cond (Arg.t 107)   AC.skip   (AC.exit 4))   (AC.seq (AC.block 5 (AC.seq (AC.reg Yv [108])   (AC.reg Yu [109, 110, 111, 112, 113, 114, 115, 116])))   (AC.reg Yt [117])))) [(1, .sl 21 w21 0 3 nps none), (12, .ptr 8 w8 0), (15, .ptr 16 wb 0), (16, .ptr kW wW 0), (26, ofV wp wh wg wb), (105, .int .i64 ((n : Nat) : Int)), (106, .int .i64 ((i : Nat) : Int))] ⟨t, kG F.fmt v0 v1 v2 v3 v4 L ++ frX v0 wg wb wu wp wm wh (yW y kV kW (some (.arr wV 44 (YE L up H i n))) (some (.arr wW 49 (.sl kV wV 0 1 n none :: rest)))) up L H b⟩
   (Qg5 (fun fr σ => ∃ fr' σ', Shift G 157 0 fr σ fr' σ' ∧ QF fr' [(1, .sl 21 w21 0 3 nps none), (12, .ptr 8 w8 0), (15, .ptr 16 wb 0), (16, .ptr kW wW 0), (26, ofV wp wh wg wb), (105, .int .i64 ((n : Nat) : Int)), (106, .int .i64 ((i + 1 : Nat) : Int))] ∧ ∃ L' t' v2' v3' v4', Ext L L' ∧ L'.length ≤ L.length + 1 ∧ AllH L' (ofT up (H, b) (vE ((i : Nat) : Int))).1 ∧ σ' = ⟨t', kG F.fmt v0 v1 v2' v3' v4' L' ++ frX v0 wg wb wu wp wm wh (yW y kV kW (some (.arr wV 44 (YE L' up (ofT up (H, b) (vE ((i : Nat) : Int))).1 (i + 1) n))) (some (.arr wW 49 (.sl kV wV 0 1 n none :: rest)))) up L' (ofT up (H, b) (vE ((i : Nat) : Int))).1 (ofT up (H, b) (vE ((i : Nat) : Int))).2⟩) fun e fr σ => False) := by
 have e2 : IntKind.i64.wrap ((i : Int) + 1) = ((i + 1 : Nat) : Int) := Qa8 hi (by omega)
 have hvl := QjH L up H i n
 have hof := fun (y : Nat → Option Ob) (t : Nat) => Qvg (P := P) (G := G) hT F (v0 := v0) (v1 := v1) (v2 := v2) (v3 := v3) (v4 := v4) (wg := wg) (wb := wb) (wu := wu) (wp := wp) (wm := wm) (wh := wh) (t := t) (y := y) (b := b) hf hA hb hL (vE ((i : Nat) : Int))
 rcases hk with ⟨rfl, rfl⟩ | ⟨rfl, rfl⟩
 ·have hof' := hof (yW y 17 18 (some (.arr wV 44 (YE L up H i n))) (some (.arr wW 49 (.sl 17 wV 0 1 n none :: rest))))
  simp only [frX, yW, rq, if_true, if_false, prV, prC] at hof' ⊢
  refine Qu 12 ?_
  simp -implicitDefEqProofs (disch := omega) only [go_sem, ↓reduceIte, rq, decide_true, Yo, Yv, Yu, Yt, decide_true, hi]
  iterate 10 (try (refine Qc 4 ?_; simp -implicitDefEqProofs (disch := omega) only [go_sem, ↓reduceIte, rA, rq, rL, zA, aZ, QaU, true_implies, and_true, lC, lN, cA, nA, tZ, List.drop_succ_cons, List.drop_zero, hr]))
  repeat' (first | with_reducible refine And.intro ?_ ?_ | (refine Qc 12 ?_; simp -implicitDefEqProofs (disch := omega) only [go_sem, Qe, ↓reduceIte, reduceCtorEq, rA, rq, rL, rT, Nat.reduceSub, Nat.reduceMul, Int.reduceToNat, Int.reduceLE, Int.reduceLT, Int.reduceEq, Int.reduceNe, Nat.succ_ne_zero, zA, aZ, Nat.mul_one, Nat.one_mul, Nat.zero_mul, decide_true, decide_false, nT, nF, lR, zL, ge_iff_le, gt_iff_lt, Nat.reduceBEq, Nat.reduceBNe, beq_self_eq_true, bne_self_eq_false, Option.isSome_some, Option.isSome_none, Option.getD_some, Option.getD_none, Ye, QA, relate_Fresh, Qdj, Qdi, Qdh, Qdg, Qdf, Qde, Qcm, QcM, QcL, QcK, Zv, Zu, Y0, Zn, Zm, Zl, Zk, Zj, Zi, Zh, Zg, YZ, Yo, Yv, Yu, Yt, Zt, Xq, XE, XD, XC, XB, XA, Xz, Xy, ZU, Qex, QlV, Qgu, Qor, Qho, QnW, QfI, Qoq, Qe0, QlU, Qc4, Qgv, QbH, Qhn, Qck, Qhm, Qcj, Qhl, Qci, QfH, Qa7, QfG, QbG, Qdw, Qa6, QaV, ZX, QaU, ZW, Qhk, QbF, Qec, QbE, QbZ, Qch, Qc3, Qaz, Qcv, QbD, Qac, Y5, Qeb, QbC, QeY, Qa5, Qhj, Qcg, Qhi, Qcf, Zq, QbI, false_implies, true_implies, true_and, and_true, not_true_eq_false, not_false_eq_true, Int.reduceBEq, nT, nF, decide_true, decide_false, lC, lN, cA, nA, aA, lA, List.getElem?_cons_zero, List.getElem?_cons_succ, List.set_cons_zero, List.set_cons_succ, tS, tZ, tN, List.drop_succ_cons, List.drop_zero, List.drop_nil, hi, hr]))
  all_goals
   refine CV.use 12 (CV.of hT QO (hof' t)) fun v σ hv => ?_
   obtain ⟨tm, L2, t2, w2, w3, w4, x1, x2, x3, x4, x5, x6, rfl, rfl⟩ := hv
   have hset := QqT (n := n) (S := (H, b)) hi hA x2 hall (vE ((i : Nat) : Int)) (x := Qad L2 (tmN tm)) (X1 x1).symm
   simp -implicitDefEqProofs (disch := omega) only [go_sem, Qe, ↓reduceIte, rA, rq, rL, zA, Nat.mul_one, nF, zL, QaV, ZX, QaU, true_implies, true_and, and_true, nF, lC, lN, cA, nA, aA, hi, hr, hvl, hset]
   iterate 10 (try (refine Qc 4 ?_; simp -implicitDefEqProofs (disch := omega) only [go_sem, Qe, ↓reduceIte, reduceCtorEq, rA, rq, rL, rT, Nat.reduceSub, Nat.reduceMul, Int.reduceToNat, Int.reduceLE, Int.reduceLT, Int.reduceEq, Int.reduceNe, Nat.succ_ne_zero, zA, aZ, Nat.mul_one, Nat.one_mul, Nat.zero_mul, decide_true, decide_false, nT, nF, lR, zL, ge_iff_le, gt_iff_lt, Nat.reduceBEq, Nat.reduceBNe, beq_self_eq_true, bne_self_eq_false, Option.isSome_some, Option.isSome_none, Option.getD_some, Option.getD_none, Ye, QA, relate_Fresh, Qdj, Qdi, Qdh, Qdg, Qdf, Qde, Qcm, QcM, QcL, QcK, Zv, Zu, Y0, Zn, Zm, Zl, Zk, Zj, Zi, Zh, Zg, YZ, Yo, Yv, Yu, Yt, Zt, Xq, XE, XD, XC, XB, XA, Xz, Xy, ZU, Qex, QlV, Qgu, Qor, Qho, QnW, QfI, Qoq, Qe0, QlU, Qc4, Qgv, QbH, Qhn, Qck, Qhm, Qcj, Qhl, Qci, QfH, Qa7, QfG, QbG, Qdw, Qa6, QaV, ZX, QaU, ZW, Qhk, QbF, Qec, QbE, QbZ, Qch, Qc3, Qaz, Qcv, QbD, Qac, Y5, Qeb, QbC, QeY, Qa5, Qhj, Qcg, Qhi, Qcf, Zq, QbI, false_implies, true_implies, true_and, and_true, not_true_eq_false, not_false_eq_true, Int.reduceBEq, nT, nF, decide_true, decide_false, lC, lN, cA, nA, aA, lA, List.getElem?_cons_zero, List.getElem?_cons_succ, List.set_cons_zero, List.set_cons_succ, tS, tZ, tN, List.drop_succ_cons, List.drop_zero, List.drop_nil, hi, hr, hvl, hset]))
   refine ⟨_, _, Shift.refl _ _ _ _, ?_, L2, t2, w2, w3, w4, x2, x3, x4, rfl⟩
   simp only [QF]; simp -implicitDefEqProofs (disch := omega) only [go_sem, ↓reduceIte, rq, and_true, e2]
 ·have hof' := hof (yW y 18 17 (some (.arr wV 44 (YE L up H i n))) (some (.arr wW 49 (.sl 18 wV 0 1 n none :: rest))))
  simp only [frX, yW, rq, if_true, if_false, prV, prC] at hof' ⊢
  refine Qu 12 ?_
  simp -implicitDefEqProofs (disch := omega) only [go_sem, ↓reduceIte, rq, decide_true, Yo, Yv, Yu, Yt, decide_true, hi]
  iterate 10 (try (refine Qc 4 ?_; simp -implicitDefEqProofs (disch := omega) only [go_sem, ↓reduceIte, rA, rq, rL, zA, aZ, QaV, true_implies, and_true, lC, lN, cA, nA, tZ, List.drop_succ_cons, List.drop_zero, hr]))
  repeat' (first | with_reducible refine And.intro ?_ ?_ | (refine Qc 12 ?_; simp -implicitDefEqProofs (disch := omega) only [go_sem, Qe, ↓reduceIte, reduceCtorEq, rA, rq, rL, rT, Nat.reduceSub, Nat.reduceMul, Int.reduceToNat, Int.reduceLE, Int.reduceLT, Int.reduceEq, Int.reduceNe, Nat.succ_ne_zero, zA, aZ, Nat.mul_one, Nat.one_mul, Nat.zero_mul, decide_true, decide_false, nT, nF, lR, zL, ge_iff_le, gt_iff_lt, Nat.reduceBEq, Nat.reduceBNe, beq_self_eq_true, bne_self_eq_false, Option.isSome_some, Option.isSome_none, Option.getD_some, Option.getD_none, Ye, QA, relate_Fresh, Qdj, Qdi, Qdh, Qdg, Qdf, Qde, Qcm, QcM, QcL, QcK, Zv, Zu, Y0, Zn, Zm, Zl, Zk, Zj, Zi, Zh, Zg, YZ, Yo, Yv, Yu, Yt, Zt, Xq, XE, XD, XC, XB, XA, Xz, Xy, ZU, Qex, QlV, Qgu, Qor, Qho, QnW, QfI, Qoq, Qe0, QlU, Qc4, Qgv, QbH, Qhn, Qck, Qhm, Qcj, Qhl, Qci, QfH, Qa7, QfG, QbG, Qdw, Qa6, QaV, ZX, QaU, ZW, Qhk, QbF, Qec, QbE, QbZ, Qch, Qc3, Qaz, Qcv, QbD, Qac, Y5, Qeb, QbC, QeY, Qa5, Qhj, Qcg, Qhi, Qcf, Zq, QbI, false_implies, true_implies, true_and, and_true, not_true_eq_false, not_false_eq_true, Int.reduceBEq, nT, nF, decide_true, decide_false, lC, lN, cA, nA, aA, lA, List.getElem?_cons_zero, List.getElem?_cons_succ, List.set_cons_zero, List.set_cons_succ, tS, tZ, tN, List.drop_succ_cons, List.drop_zero, List.drop_nil, hi, hr]))
  all_goals
   refine CV.use 12 (CV.of hT QO (hof' t)) fun v σ hv => ?_
   obtain ⟨tm, L2, t2, w2, w3, w4, x1, x2, x3, x4, x5, x6, rfl, rfl⟩ := hv
   have hset := QqT (n := n) (S := (H, b)) hi hA x2 hall (vE ((i : Nat) : Int)) (x := Qad L2 (tmN tm)) (X1 x1).symm
   simp -implicitDefEqProofs (disch := omega) only [go_sem, Qe, ↓reduceIte, rA, rq, rL, zA, Nat.mul_one, nF, zL, QaV, QaU, ZW, true_implies, true_and, and_true, nF, lC, lN, cA, nA, aA, hi, hr, hvl, hset]
   iterate 10 (try (refine Qc 4 ?_; simp -implicitDefEqProofs (disch := omega) only [go_sem, Qe, ↓reduceIte, reduceCtorEq, rA, rq, rL, rT, Nat.reduceSub, Nat.reduceMul, Int.reduceToNat, Int.reduceLE, Int.reduceLT, Int.reduceEq, Int.reduceNe, Nat.succ_ne_zero, zA, aZ, Nat.mul_one, Nat.one_mul, Nat.zero_mul, decide_true, decide_false, nT, nF, lR, zL, ge_iff_le, gt_iff_lt, Nat.reduceBEq, Nat.reduceBNe, beq_self_eq_true, bne_self_eq_false, Option.isSome_some, Option.isSome_none, Option.getD_some, Option.getD_none, Ye, QA, relate_Fresh, Qdj, Qdi, Qdh, Qdg, Qdf, Qde, Qcm, QcM, QcL, QcK, Zv, Zu, Y0, Zn, Zm, Zl, Zk, Zj, Zi, Zh, Zg, YZ, Yo, Yv, Yu, Yt, Zt, Xq, XE, XD, XC, XB, XA, Xz, Xy, ZU, Qex, QlV, Qgu, Qor, Qho, QnW, QfI, Qoq, Qe0, QlU, Qc4, Qgv, QbH, Qhn, Qck, Qhm, Qcj, Qhl, Qci, QfH, Qa7, QfG, QbG, Qdw, Qa6, QaV, ZX, QaU, ZW, Qhk, QbF, Qec, QbE, QbZ, Qch, Qc3, Qaz, Qcv, QbD, Qac, Y5, Qeb, QbC, QeY, Qa5, Qhj, Qcg, Qhi, Qcf, Zq, QbI, false_implies, true_implies, true_and, and_true, not_true_eq_false, not_false_eq_true, Int.reduceBEq, nT, nF, decide_true, decide_false, lC, lN, cA, nA, aA, lA, List.getElem?_cons_zero, List.getElem?_cons_succ, List.set_cons_zero, List.set_cons_succ, tS, tZ, tN, List.drop_succ_cons, List.drop_zero, List.drop_nil, hi, hr, hvl, hset]))
   refine ⟨_, _, Shift.refl _ _ _ _, ?_, L2, t2, w2, w3, w4, x2, x3, x4, rfl⟩
   simp only [QF]; simp -implicitDefEqProofs (disch := omega) only [go_sem, ↓reduceIte, rq, and_true, e2]
end Go.Proofs.YtfgccihafnjalaaGreatDoor
