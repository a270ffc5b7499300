/- The translations of the functions, by a program of mine. -/
import Derived.Test.YtaidbdgndljaeaaGreatDoorTabA
namespace Go.Proofs.YtaidbdgndljaeaaGreatDoor
open Go Go.Am
set_option maxRecDepth 100000
/- proofmark/regions.frame -/
def zq1j_0 : AT := (.wr false (some 1) none (.box 47 (.t 0))
 (.rd (some 2) none (.mov (.c (.int .i64 0)))
 .done))
def zq1j_1 : AT := (.rd (some 4) none (.faddr 4 (.t 1))
 (.rd (some 5) none (.load false 1 (.t 4))
 (.rd (some 6) none (.un .neg (.t 5))
 (.rd (some 3) none (.mov (.t 6))
 .done))))
def zq1j_2 : AT := (.rd (some 7) none (.faddr 0 (.t 1))
 (.rd (some 8) none (.load false 1 (.t 7))
 (.rd (some 9) none (.bin .neq (.t 8) (.c (.int .u8 22)))
 (.rd (some 10) none (.mov (.t 9))
 (.rd (some 11) (some (10, false)) (.faddr 1 (.t 1))
 (.rd (some 12) (some (10, false)) (.load false 1 (.t 11))
 (.rd (some 13) (some (10, false)) (.bin .neq (.t 12) (.c (.int .u8 2)))
 (.rd (some 14) none (.pick (.t 10) (.c (.bool true)) (.t 13))
 (.rd (some 15) none (.mov (.t 14))
 (.rd (some 16) (some (15, false)) (.faddr 2 (.t 1))
 (.rd (some 17) (some (15, false)) (.load false 1 (.t 16))
 (.rd (some 18) (some (15, false)) (.bin .neq (.t 17) (.c (.int .u8 2)))
 (.rd (some 19) none (.pick (.t 15) (.c (.bool true)) (.t 18))
 (.rd (some 20) none (.mov (.t 19))
 (.rd (some 21) (some (20, false)) (.mov (.t 3))
 (.rd (some 22) (some (20, false)) (.bin .lss (.t 21) (.c (.int .i64 8)))
 (.rd (some 23) none (.pick (.t 20) (.c (.bool true)) (.t 22))
 (.rd (some 24) none (.mov (.t 23))
 (.rd (some 25) (some (24, false)) (.mov (.t 3))
 (.rd (some 26) (some (24, false)) (.bin .gtr (.t 25) (.c (.int .i64 1984)))
 (.rd (some 27) none (.pick (.t 24) (.c (.bool true)) (.t 26))
 (.rd (some 28) none (.mov (.t 27))
 (.rd (some 29) (some (28, false)) (.mov (.t 3))
 (.rd (some 30) (some (28, false)) (.bin .rem (.t 29) (.c (.int .i64 8)))
 (.rd (some 31) (some (28, false)) (.bin .neq (.t 30) (.c (.int .i64 0)))
 (.rd (some 32) none (.pick (.t 28) (.c (.bool true)) (.t 31))
 .done))))))))))))))))))))))))))
def zq1j_3 : AT := (.rd (some 2) none (.mov (.c (.int .i64 0)))
 .done)
def zq1j_4 : AT := (.rd (some 33) none (.mov (.t 3))
 (.rd (some 2) none (.mov (.t 33))
 .done))
def regions_frame : AF := ⟨34, [.tmp 2],
  (.seq (.reg zq1j_0 [])
  (.seq (.reg zq1j_1 [4, 5, 6])
  (.seq (.seq (.reg zq1j_2 [7, 8, 9, 10, 11, 12, 13, 14, 15, 16, 17, 18, 19, 20, 21, 22, 23, 24, 25, 26, 27, 28, 29, 30, 31])
  (.cond (.t 32)
  (.seq (.reg zq1j_3 [])
  .ret)
  .skip))
  (.seq (.reg zq1j_4 [33])
  .ret))))⟩
abbrev n_regions_frame : Nat := 58
/- (*proofmark/regions.reader).fault -/
def zq1k_0 : AT := (.rd (some 4) none (.mov (.c (.int .i64 0)))
 .done)
def zq1k_1 : AT := (.rd (some 8) none (.mov (.t 0))
 (.rd (some 9) none (.mkfn (.func 80) [(.t 8)] [])
 (.rd (some 10) none (.build [(.val .nilFunc), (.int .i64 0)] [(0, 1, (.t 9)), (1, 1, (.c (.int .i64 220)))])
 (.rd (some 11) none (.mov (.t 0))
 (.rd (some 12) none (.mkfn (.func 81) [(.t 11)] [])
 (.rd (some 13) none (.build [(.val .nilFunc), (.int .i64 0)] [(0, 1, (.t 12)), (1, 1, (.c (.int .i64 221)))])
 (.rd (some 14) none (.mov (.t 0))
 (.rd (some 15) none (.mkfn (.func 82) [(.t 14)] [])
 (.rd (some 16) none (.build [(.val .nilFunc), (.int .i64 0)] [(0, 1, (.t 15)), (1, 1, (.c (.int .i64 222)))])
 (.rd (some 17) none (.mov (.t 0))
 (.rd (some 18) none (.mkfn (.func 83) [(.t 17)] [])
 (.rd (some 19) none (.build [(.val .nilFunc), (.int .i64 0)] [(0, 1, (.t 18)), (1, 1, (.c (.int .i64 223)))])
 (.wr false (some 20) none (.bsl true true 138 2 [(.val .nilFunc), (.int .i64 0)] 4 [(0, 2, (.t 10)), (2, 2, (.t 13)), (4, 2, (.t 16)), (6, 2, (.t 19))])
 (.rd (some 5) none (.mov (.t 20))
 .done))))))))))))))
def zq1k_2 : AT := (.rd (some 21) none (.mov (.t 5))
 (.rd (some 22) none (.len 0 (.t 21))
 (.rd (some 23) none (.mov (.c (.int .i64 0)))
 .done)))
def zq1k_3 : AT := (.rd (some 24) none (.bin .lss (.t 23) (.t 22))
 .done)
def zq1k_4 : AT := (.rd (some 25) none (.iaddr none 2 (.t 21) (.t 23))
 (.rd (some 26) none (.load true 2 (.t 25))
 (.wr false (some 7) none (.new 138 [(.val .nilFunc), (.int .i64 0)])
 (.wr false none none (.store 2 (.t 7) (.t 26))
 .done))))
def zq1k_5 : AT := (.rd (some 27) none (.faddr 0 (.t 7))
 (.rd (some 28) none (.load false 1 (.t 27))
 (.rd (some 29) none (.mov (.t 1))
 (.cl false (some 30) none (.t 28) [(.t 29)]
 (.rd (some 31) none (.un .not (.t 30))
 .done)))))
def zq1k_6 : AT := (.rd (some 32) none (.faddr 1 (.t 7))
 (.rd (some 33) none (.load false 1 (.t 32))
 (.rd (some 4) none (.mov (.t 33))
 .done)))
def zq1k_7 : AT := (.rd (some 34) none (.bin .add (.t 23) (.c (.int .i64 1)))
 (.rd (some 23) none (.mov (.t 34))
 .done))
def zq1k_8 : AT := (.rd (some 4) none (.mov (.c (.int .i64 0)))
 .done)
def regions_reader_fault : AF := ⟨35, [.tmp 4],
  (.seq (.reg zq1k_0 [])
  (.seq (.reg zq1k_1 [8, 9, 10, 11, 12, 13, 14, 15, 16, 17, 18, 19, 20])
  (.seq (.seq (.reg zq1k_2 [])
  (.block 0 (.loop (.seq (.reg zq1k_3 [])
  (.seq (.cond (.t 24)
  .skip
  (.exit 0))
  (.seq (.block 1 (.seq (.reg zq1k_4 [25, 26])
  (.seq (.reg zq1k_5 [27, 28, 29, 30])
  (.cond (.t 31)
  (.seq (.reg zq1k_6 [32, 33])
  .ret)
  .skip))))
  (.reg zq1k_7 [34])))))))
  (.seq (.reg zq1k_8 [])
  .ret))))⟩
abbrev n_regions_reader_fault : Nat := 59
/- (proofmark/regions.Func).cuts -/
def zq1l_0 : AT := (.wr false (some 1) none (.box 37 (.t 0))
 (.rd (some 2) none (.mov (.c (.lst 0 [] true)))
 .done))
def zq1l_1 : AT := (.wr false (some 10) none .mkmap
 (.rd (some 3) none (.mov (.t 10))
 .done))
def zq1l_2 : AT := (.rd (some 11) none (.faddr 2 (.t 1))
 (.rd (some 12) none (.load false 1 (.t 11))
 (.rd (some 13) none (.len 0 (.t 12))
 (.rd (some 14) none (.mov (.c (.int .i64 0)))
 .done))))
def zq1l_3 : AT := (.rd (some 15) none (.bin .lss (.t 14) (.t 13))
 .done)
def zq1l_4 : AT := (.rd (some 16) none (.mov (.t 14))
 (.rd (some 4) none (.mov (.t 16))
 .done))
def zq1l_5 : AT := (.rd (some 17) none (.load true 5 (.t 1))
 (.rd (some 18) none (.mov (.t 4))
 (.cl false (some 19) none (.c (.fn (.func 10) [] [])) [(.t 17), (.t 18)]
 (.rd (some 20) none (.len 0 (.t 19))
 (.rd (some 21) none (.mov (.c (.int .i64 0)))
 .done)))))
def zq1l_6 : AT := (.rd (some 22) none (.bin .lss (.t 21) (.t 20))
 .done)
def zq1l_7 : AT := (.rd (some 23) none (.iaddr none 1 (.t 19) (.t 21))
 (.rd (some 24) none (.load false 1 (.t 23))
 (.rd (some 6) none (.mov (.t 24))
 .done)))
def zq1l_8 : AT := (.rd (some 25) none (.mov (.t 3))
 (.rd (some 26) none (.mov (.t 6))
 (.rd (some 27) none (.look false false [.i] (.int .i64 0) (.t 25) (.t 26))
 (.rd (some 28) none (.bin .add (.t 27) (.c (.int .i64 1)))
 (.wr false none none (.mapup false [.i] (.t 25) (.t 26) (.t 28))
 .done)))))
def zq1l_9 : AT := (.rd (some 29) none (.bin .add (.t 21) (.c (.int .i64 1)))
 (.rd (some 21) none (.mov (.t 29))
 .done))
def zq1l_10 : AT := (.rd (some 30) none (.bin .add (.t 14) (.c (.int .i64 1)))
 (.rd (some 14) none (.mov (.t 30))
 .done))
def zq1l_11 : AT := (.rd (some 7) none (.mov (.c (.lst 0 [] true)))
 .done)
def zq1l_12 : AT := (.rd (some 31) none (.mov (.t 3))
 (.wr false (some 32) none (.iter (.t 31))
 .done))
def zq1l_13 : AT := (.wr false (some 33) none (.next (.t 32))
 (.rd (some 34) none (.extr (.t 33) 0)
 .done))
def zq1l_14 : AT := (.wr false (some 35) none (.entry (.t 32))
 (.rd (some 36) none (.extr (.t 35) 0)
 (.rd (some 37) none (.extr (.t 35) 1)
 (.rd (some 8) none (.mov (.t 36))
 (.rd (some 9) none (.mov (.t 37))
 .done)))))
def zq1l_15 : AT := (.rd (some 38) none (.mov (.t 9))
 (.rd (some 39) none (.bin .gtr (.t 38) (.c (.int .i64 1)))
 .done))
def zq1l_16 : AT := (.rd (some 40) none (.mov (.t 7))
 (.rd (some 41) none (.mov (.t 8))
 (.wr false (some 42) none (.bsl false false 3 1 [(.int .i64 0)] 1 [(0, 1, (.t 41))])
 (.wr false (some 43) none (.app 3 1 8 false (.t 40) (.t 42))
 (.rd (some 7) none (.mov (.t 43))
 .done)))))
def zq1l_17 : AT := (.rd (some 44) none (.mov (.t 7))
 (.cl false (some 45) none (.c (.fn (.func 26) [] [])) [(.t 44)]
 .done))
def zq1l_18 : AT := (.rd (some 46) none (.mov (.t 7))
 (.rd (some 2) none (.mov (.t 46))
 .done))
def regions_Func_cuts : AF := ⟨47, [.tmp 2],
  (.seq (.reg zq1l_0 [])
  (.seq (.reg zq1l_1 [10])
  (.seq (.seq (.reg zq1l_2 [11, 12])
  (.block 0 (.loop (.seq (.reg zq1l_3 [])
  (.seq (.cond (.t 15)
  .skip
  (.exit 0))
  (.seq (.block 1 (.seq (.reg zq1l_4 [16])
  (.seq (.reg zq1l_5 [17, 18])
  (.block 2 (.loop (.seq (.reg zq1l_6 [])
  (.seq (.cond (.t 22)
  .skip
  (.exit 2))
  (.seq (.block 3 (.seq (.reg zq1l_7 [23, 24])
  (.reg zq1l_8 [25, 26, 27, 28])))
  (.reg zq1l_9 [29])))))))))
  (.reg zq1l_10 [30])))))))
  (.seq (.reg zq1l_11 [])
  (.seq (.seq (.reg zq1l_12 [31])
  (.block 4 (.loop (.seq (.reg zq1l_13 [33])
  (.seq (.cond (.t 34)
  .skip
  (.exit 4))
  (.block 5 (.seq (.reg zq1l_14 [35, 36, 37])
  (.seq (.reg zq1l_15 [38])
  (.cond (.t 39)
  (.reg zq1l_16 [40, 41, 42, 43])
  .skip)))))))))
  (.seq (.reg zq1l_17 [44, 45])
  (.seq (.reg zq1l_18 [46])
  .ret)))))))⟩
abbrev n_regions_Func_cuts : Nat := 60
abbrev n_slices_pdqsortOrdered_int : Nat := 61
/- math/bits.Len -/
def zq1n_0 : AT := (.rd (some 2) none (.mov (.c (.int .i64 0)))
 .done)
def zq1n_1 : AT := (.rd (some 3) none (.mov (.t 0))
 (.rd (some 4) none (.conv .u32 (.t 3))
 (.cl false (some 5) none (.c (.fn (.func 93) [] [])) [(.t 4)]
 (.rd (some 2) none (.mov (.t 5))
 .done))))
def zq1n_2 : AT := (.rd (some 6) none (.mov (.t 0))
 (.cl false (some 7) none (.c (.fn (.func 94) [] [])) [(.t 6)]
 (.rd (some 2) none (.mov (.t 7))
 .done)))
def math_bits_Len : AF := ⟨8, [.tmp 2],
  (.seq (.reg zq1n_0 [])
  (.seq (.cond (.c (.bool false))
  (.seq (.reg zq1n_1 [3, 4, 5])
  .ret)
  .skip)
  (.seq (.reg zq1n_2 [6, 7])
  .ret)))⟩
abbrev n_math_bits_Len : Nat := 62
/- slices.IndexFunc[[]int,int] -/
def zq1o_0 : AT := (.rd (some 4) none (.mov (.c (.int .i64 0)))
 .done)
def zq1o_1 : AT := (.rd (some 6) none (.mov (.t 0))
 (.rd (some 7) none (.len 0 (.t 6))
 (.rd (some 8) none (.mov (.c (.int .i64 0)))
 .done)))
def zq1o_2 : AT := (.rd (some 9) none (.bin .lss (.t 8) (.t 7))
 .done)
def zq1o_3 : AT := (.rd (some 10) none (.mov (.t 8))
 (.rd (some 5) none (.mov (.t 10))
 .done))
def zq1o_4 : AT := (.rd (some 11) none (.mov (.t 1))
 (.rd (some 12) none (.mov (.t 0))
 (.rd (some 13) none (.mov (.t 5))
 (.rd (some 14) none (.iaddr none 1 (.t 12) (.t 13))
 (.rd (some 15) none (.load false 1 (.t 14))
 (.cl false (some 16) none (.t 11) [(.t 15)]
 .done))))))
def zq1o_5 : AT := (.rd (some 17) none (.mov (.t 5))
 (.rd (some 4) none (.mov (.t 17))
 .done))
def zq1o_6 : AT := (.rd (some 18) none (.bin .add (.t 8) (.c (.int .i64 1)))
 (.rd (some 8) none (.mov (.t 18))
 .done))
def zq1o_7 : AT := (.rd (some 4) none (.mov (.c (.int .i64 (-1))))
 .done)
def slices_IndexFunc_int_int : AF := ⟨19, [.tmp 4],
  (.seq (.reg zq1o_0 [])
  (.seq (.seq (.reg zq1o_1 [6])
  (.block 0 (.loop (.seq (.reg zq1o_2 [])
  (.seq (.cond (.t 9)
  .skip
  (.exit 0))
  (.seq (.block 1 (.seq (.reg zq1o_3 [10])
  (.seq (.reg zq1o_4 [11, 12, 13, 14, 15])
  (.cond (.t 16)
  (.seq (.reg zq1o_5 [17])
  .ret)
  .skip))))
  (.reg zq1o_6 [18])))))))
  (.seq (.reg zq1o_7 [])
  .ret)))⟩
abbrev n_slices_IndexFunc_int_int : Nat := 63
/- proofmark/rv.table -/
def zq1p_0 : AT := (.wr false (some 0) none (.new 117 (List.replicate 66 [(.bool false), (.bool false), (.bool false), (.lst 0 [] true), (.int .i64 0), (.bool false), (.int .u32 0), (.str []), (.int .u32 0)]).flatten)
 .done)
def zq1p_1 : AT := (.rd (some 10) none (.build [(.bool false), (.bool false), (.bool false), (.lst 0 [] true), (.int .i64 0), (.bool false), (.int .u32 0)] [(0, 1, (.c (.bool true))), (1, 1, (.c (.bool true))), (2, 1, (.c (.bool true))), (3, 1, (.c (.lst 0 [] true))), (4, 1, (.c (.int .i64 0))), (5, 1, (.c (.bool false))), (6, 1, (.c (.int .u32 4261441663)))])
 (.wr false (some 1) none (.new 72 [(.bool false), (.bool false), (.bool false), (.lst 0 [] true), (.int .i64 0), (.bool false), (.int .u32 0)])
 (.wr false none none (.store 7 (.t 1) (.t 10))
 .done)))
def zq1p_2 : AT := (.rd (some 11) none (.build [(.int .i64 0), (.int .i64 0)] [(0, 1, (.c (.int .i64 20))), (1, 1, (.c (.int .i64 12)))])
 (.wr false (some 12) none (.bsl false true 81 2 [(.int .i64 0), (.int .i64 0)] 1 [(0, 2, (.t 11))])
 (.rd (some 13) none (.build [(.bool false), (.bool false), (.bool false), (.lst 0 [] true), (.int .i64 0), (.bool false), (.int .u32 0)] [(0, 1, (.c (.bool true))), (1, 1, (.c (.bool true))), (2, 1, (.c (.bool false))), (3, 1, (.t 12)), (4, 1, (.c (.int .i64 0))), (5, 1, (.c (.bool true))), (6, 1, (.c (.int .u32 28799)))])
 (.wr false (some 2) none (.new 72 [(.bool false), (.bool false), (.bool false), (.lst 0 [] true), (.int .i64 0), (.bool false), (.int .u32 0)])
 (.wr false none none (.store 7 (.t 2) (.t 13))
 .done)))))
def zq1p_3 : AT := (.rd (some 14) none (.build [(.int .i64 0), (.int .i64 0)] [(0, 1, (.c (.int .i64 20))), (1, 1, (.c (.int .i64 6)))])
 (.wr false (some 15) none (.bsl false true 81 2 [(.int .i64 0), (.int .i64 0)] 1 [(0, 2, (.t 14))])
 (.rd (some 16) none (.build [(.bool false), (.bool false), (.bool false), (.lst 0 [] true), (.int .i64 0), (.bool false), (.int .u32 0)] [(0, 1, (.c (.bool true))), (1, 1, (.c (.bool true))), (2, 1, (.c (.bool false))), (3, 1, (.t 15)), (4, 1, (.c (.int .i64 0))), (5, 1, (.c (.bool false))), (6, 1, (.c (.int .u32 4227887231)))])
 (.wr false (some 3) none (.new 72 [(.bool false), (.bool false), (.bool false), (.lst 0 [] true), (.int .i64 0), (.bool false), (.int .u32 0)])
 (.wr false none none (.store 7 (.t 3) (.t 16))
 .done)))))
def zq1p_4 : AT := (.rd (some 17) none (.build [(.int .i64 0), (.int .i64 0)] [(0, 1, (.c (.int .i64 20))), (1, 1, (.c (.int .i64 5)))])
 (.wr false (some 18) none (.bsl false true 81 2 [(.int .i64 0), (.int .i64 0)] 1 [(0, 2, (.t 17))])
 (.rd (some 19) none (.build [(.bool false), (.bool false), (.bool false), (.lst 0 [] true), (.int .i64 0), (.bool false), (.int .u32 0)] [(0, 1, (.c (.bool true))), (1, 1, (.c (.bool true))), (2, 1, (.c (.bool false))), (3, 1, (.t 18)), (4, 1, (.c (.int .i64 0))), (5, 1, (.c (.bool false))), (6, 1, (.c (.int .u32 4261441663)))])
 (.wr false (some 4) none (.new 72 [(.bool false), (.bool false), (.bool false), (.lst 0 [] true), (.int .i64 0), (.bool false), (.int .u32 0)])
 (.wr false none none (.store 7 (.t 4) (.t 19))
 .done)))))
def zq1p_5 : AT := (.rd (some 20) none (.build [(.int .i64 0), (.int .i64 0)] [(0, 1, (.c (.int .i64 25))), (1, 1, (.c (.int .i64 7)))])
 (.rd (some 21) none (.build [(.int .i64 0), (.int .i64 0)] [(0, 1, (.c (.int .i64 7))), (1, 1, (.c (.int .i64 5)))])
 (.wr false (some 22) none (.bsl false true 81 2 [(.int .i64 0), (.int .i64 0)] 2 [(0, 2, (.t 20)), (2, 2, (.t 21))])
 (.rd (some 23) none (.build [(.bool false), (.bool false), (.bool false), (.lst 0 [] true), (.int .i64 0), (.bool false), (.int .u32 0)] [(0, 1, (.c (.bool false))), (1, 1, (.c (.bool true))), (2, 1, (.c (.bool true))), (3, 1, (.t 22)), (4, 1, (.c (.int .i64 0))), (5, 1, (.c (.bool true))), (6, 1, (.c (.int .u32 28799)))])
 (.wr false (some 5) none (.new 72 [(.bool false), (.bool false), (.bool false), (.lst 0 [] true), (.int .i64 0), (.bool false), (.int .u32 0)])
 (.wr false none none (.store 7 (.t 5) (.t 23))
 .done))))))
def zq1p_6 : AT := (.rd (some 24) none (.build [(.int .i64 0), (.int .i64 0)] [(0, 1, (.c (.int .i64 31))), (1, 1, (.c (.int .i64 1)))])
 (.rd (some 25) none (.build [(.int .i64 0), (.int .i64 0)] [(0, 1, (.c (.int .i64 7))), (1, 1, (.c (.int .i64 1)))])
 (.rd (some 26) none (.build [(.int .i64 0), (.int .i64 0)] [(0, 1, (.c (.int .i64 25))), (1, 1, (.c (.int .i64 6)))])
 (.rd (some 27) none (.build [(.int .i64 0), (.int .i64 0)] [(0, 1, (.c (.int .i64 8))), (1, 1, (.c (.int .i64 4)))])
 (.wr false (some 28) none (.bsl false true 81 2 [(.int .i64 0), (.int .i64 0)] 4 [(0, 2, (.t 24)), (2, 2, (.t 25)), (4, 2, (.t 26)), (6, 2, (.t 27))])
 (.rd (some 29) none (.build [(.bool false), (.bool false), (.bool false), (.lst 0 [] true), (.int .i64 0), (.bool false), (.int .u32 0)] [(0, 1, (.c (.bool false))), (1, 1, (.c (.bool true))), (2, 1, (.c (.bool true))), (3, 1, (.t 28)), (4, 1, (.c (.int .i64 1))), (5, 1, (.c (.bool true))), (6, 1, (.c (.int .u32 28799)))])
 (.wr false (some 6) none (.new 72 [(.bool false), (.bool false), (.bool false), (.lst 0 [] true), (.int .i64 0), (.bool false), (.int .u32 0)])
 (.wr false none none (.store 7 (.t 6) (.t 29))
 .done))))))))
def zq1p_7 : AT := (.rd (some 30) none (.build [(.int .i64 0), (.int .i64 0)] [(0, 1, (.c (.int .i64 12))), (1, 1, (.c (.int .i64 20)))])
 (.wr false (some 31) none (.bsl false true 81 2 [(.int .i64 0), (.int .i64 0)] 1 [(0, 2, (.t 30))])
 (.rd (some 32) none (.build [(.bool false), (.bool false), (.bool false), (.lst 0 [] true), (.int .i64 0), (.bool false), (.int .u32 0)] [(0, 1, (.c (.bool true))), (1, 1, (.c (.bool false))), (2, 1, (.c (.bool false))), (3, 1, (.t 31)), (4, 1, (.c (.int .i64 12))), (5, 1, (.c (.bool true))), (6, 1, (.c (.int .u32 127)))])
 (.wr false (some 7) none (.new 72 [(.bool false), (.bool false), (.bool false), (.lst 0 [] true), (.int .i64 0), (.bool false), (.int .u32 0)])
 (.wr false none none (.store 7 (.t 7) (.t 32))
 .done)))))
def zq1p_8 : AT := (.rd (some 33) none (.build [(.int .i64 0), (.int .i64 0)] [(0, 1, (.c (.int .i64 31))), (1, 1, (.c (.int .i64 1)))])
 (.rd (some 34) none (.build [(.int .i64 0), (.int .i64 0)] [(0, 1, (.c (.int .i64 12))), (1, 1, (.c (.int .i64 8)))])
 (.rd (some 35) none (.build [(.int .i64 0), (.int .i64 0)] [(0, 1, (.c (.int .i64 20))), (1, 1, (.c (.int .i64 1)))])
 (.rd (some 36) none (.build [(.int .i64 0), (.int .i64 0)] [(0, 1, (.c (.int .i64 21))), (1, 1, (.c (.int .i64 10)))])
 (.wr false (some 37) none (.bsl false true 81 2 [(.int .i64 0), (.int .i64 0)] 4 [(0, 2, (.t 33)), (2, 2, (.t 34)), (4, 2, (.t 35)), (6, 2, (.t 36))])
 (.rd (some 38) none (.build [(.bool false), (.bool false), (.bool false), (.lst 0 [] true), (.int .i64 0), (.bool false), (.int .u32 0)] [(0, 1, (.c (.bool true))), (1, 1, (.c (.bool false))), (2, 1, (.c (.bool false))), (3, 1, (.t 37)), (4, 1, (.c (.int .i64 1))), (5, 1, (.c (.bool true))), (6, 1, (.c (.int .u32 127)))])
 (.wr false (some 8) none (.new 72 [(.bool false), (.bool false), (.bool false), (.lst 0 [] true), (.int .i64 0), (.bool false), (.int .u32 0)])
 (.wr false none none (.store 7 (.t 8) (.t 38))
 .done))))))))
def zq1p_9 : AT := (.rd (some 39) none (.build [(.bool false), (.bool false), (.bool false), (.lst 0 [] true), (.int .i64 0), (.bool false), (.int .u32 0)] [(6, 1, (.c (.int .u32 4294967295)))])
 (.wr false (some 9) none (.new 72 [(.bool false), (.bool false), (.bool false), (.lst 0 [] true), (.int .i64 0), (.bool false), (.int .u32 0)])
 (.wr false none none (.store 7 (.t 9) (.t 39))
 .done)))
def zq1p_10 : AT := (.rd (some 40) none (.load true 7 (.t 7))
 (.rd (some 42) none (.load true 7 (.t 7))
 (.rd (some 44) none (.load true 7 (.t 8))
 (.rd (some 46) none (.load true 7 (.t 2))
 (.rd (some 48) none (.load true 7 (.t 6))
 (.rd (some 50) none (.load true 7 (.t 6))
 (.rd (some 52) none (.load true 7 (.t 6))
 (.rd (some 54) none (.load true 7 (.t 6))
 (.rd (some 56) none (.load true 7 (.t 6))
 (.rd (some 58) none (.load true 7 (.t 6))
 (.rd (some 60) none (.load true 7 (.t 2))
 (.rd (some 62) none (.load true 7 (.t 2))
 (.rd (some 64) none (.load true 7 (.t 2))
 (.rd (some 66) none (.load true 7 (.t 2))
 (.rd (some 68) none (.load true 7 (.t 2))
 (.rd (some 70) none (.load true 7 (.t 2))
 (.rd (some 72) none (.load true 7 (.t 2))
 (.rd (some 74) none (.load true 7 (.t 5))
 (.rd (some 76) none (.load true 7 (.t 5))
 (.rd (some 78) none (.load true 7 (.t 5))
 (.rd (some 80) none (.load true 7 (.t 5))
 (.rd (some 82) none (.load true 7 (.t 2))
 (.rd (some 84) none (.load true 7 (.t 2))
 (.rd (some 86) none (.load true 7 (.t 2))
 (.rd (some 88) none (.load true 7 (.t 2))
 (.rd (some 90) none (.load true 7 (.t 2))
 (.rd (some 92) none (.load true 7 (.t 2))
 (.rd (some 94) none (.load true 7 (.t 3))
 (.rd (some 96) none (.load true 7 (.t 3))
 (.rd (some 98) none (.load true 7 (.t 3))
 (.rd (some 100) none (.load true 7 (.t 1))
 (.rd (some 102) none (.load true 7 (.t 1))
 (.rd (some 104) none (.load true 7 (.t 1))
 (.rd (some 106) none (.load true 7 (.t 1))
 (.rd (some 108) none (.load true 7 (.t 1))
 (.rd (some 110) none (.load true 7 (.t 1))
 (.rd (some 112) none (.load true 7 (.t 1))
 (.rd (some 114) none (.load true 7 (.t 1))
 (.rd (some 116) none (.load true 7 (.t 1))
 (.rd (some 118) none (.load true 7 (.t 1))
 (.rd (some 120) none (.load true 7 (.t 2))
 (.rd (some 122) none (.load true 7 (.t 4))
 (.rd (some 124) none (.load true 7 (.t 4))
 (.rd (some 126) none (.load true 7 (.t 4))
 (.rd (some 128) none (.load true 7 (.t 1))
 (.rd (some 130) none (.load true 7 (.t 1))
 (.rd (some 132) none (.load true 7 (.t 1))
 (.rd (some 134) none (.load true 7 (.t 1))
 (.rd (some 136) none (.load true 7 (.t 1))
 (.rd (some 138) none (.load true 7 (.t 1))
 (.rd (some 140) none (.load true 7 (.t 1))
 (.rd (some 142) none (.load true 7 (.t 1))
 (.rd (some 144) none (.load true 7 (.t 1))
 (.rd (some 146) none (.load true 7 (.t 1))
 (.rd (some 148) none (.load true 7 (.t 1))
 (.rd (some 150) none (.load true 7 (.t 1))
 (.rd (some 152) none (.load true 7 (.t 1))
 (.rd (some 154) none (.load true 7 (.t 1))
 (.rd (some 156) none (.load true 7 (.t 1))
 (.rd (some 158) none (.load true 7 (.t 1))
 (.rd (some 160) none (.load true 7 (.t 1))
 (.rd (some 162) none (.load true 7 (.t 1))
 (.rd (some 164) none (.load true 7 (.t 2))
 (.rd (some 166) none (.load true 7 (.t 9))
 (.rd (some 168) none (.load true 7 (.t 9))
 (.cl true (some 41) none (.c (.fn (.func 95) [] [])) [(.t 40), (.c (.str [108, 117, 105])), (.c (.int .u32 55)), (.c (.int .u32 0)), (.c (.int .u32 0))]
 (.cl true (some 43) none (.c (.fn (.func 95) [] [])) [(.t 42), (.c (.str [97, 117, 105, 112, 99])), (.c (.int .u32 23)), (.c (.int .u32 0)), (.c (.int .u32 0))]
 (.cl true (some 45) none (.c (.fn (.func 95) [] [])) [(.t 44), (.c (.str [106, 97, 108])), (.c (.int .u32 111)), (.c (.int .u32 0)), (.c (.int .u32 0))]
 (.cl true (some 47) none (.c (.fn (.func 95) [] [])) [(.t 46), (.c (.str [106, 97, 108, 114])), (.c (.int .u32 103)), (.c (.int .u32 0)), (.c (.int .u32 0))]
 (.cl true (some 49) none (.c (.fn (.func 95) [] [])) [(.t 48), (.c (.str [98, 101, 113])), (.c (.int .u32 99)), (.c (.int .u32 0)), (.c (.int .u32 0))]
 (.cl true (some 51) none (.c (.fn (.func 95) [] [])) [(.t 50), (.c (.str [98, 110, 101])), (.c (.int .u32 99)), (.c (.int .u32 1)), (.c (.int .u32 0))]
 (.cl true (some 53) none (.c (.fn (.func 95) [] [])) [(.t 52), (.c (.str [98, 108, 116])), (.c (.int .u32 99)), (.c (.int .u32 4)), (.c (.int .u32 0))]
 (.cl true (some 55) none (.c (.fn (.func 95) [] [])) [(.t 54), (.c (.str [98, 103, 101])), (.c (.int .u32 99)), (.c (.int .u32 5)), (.c (.int .u32 0))]
 (.cl true (some 57) none (.c (.fn (.func 95) [] [])) [(.t 56), (.c (.str [98, 108, 116, 117])), (.c (.int .u32 99)), (.c (.int .u32 6)), (.c (.int .u32 0))]
 (.cl true (some 59) none (.c (.fn (.func 95) [] [])) [(.t 58), (.c (.str [98, 103, 101, 117])), (.c (.int .u32 99)), (.c (.int .u32 7)), (.c (.int .u32 0))]
 (.cl true (some 61) none (.c (.fn (.func 95) [] [])) [(.t 60), (.c (.str [108, 98])), (.c (.int .u32 3)), (.c (.int .u32 0)), (.c (.int .u32 0))]
 (.cl true (some 63) none (.c (.fn (.func 95) [] [])) [(.t 62), (.c (.str [108, 104])), (.c (.int .u32 3)), (.c (.int .u32 1)), (.c (.int .u32 0))]
 (.cl true (some 65) none (.c (.fn (.func 95) [] [])) [(.t 64), (.c (.str [108, 119])), (.c (.int .u32 3)), (.c (.int .u32 2)), (.c (.int .u32 0))]
 (.cl true (some 67) none (.c (.fn (.func 95) [] [])) [(.t 66), (.c (.str [108, 100])), (.c (.int .u32 3)), (.c (.int .u32 3)), (.c (.int .u32 0))]
 (.cl true (some 69) none (.c (.fn (.func 95) [] [])) [(.t 68), (.c (.str [108, 98, 117])), (.c (.int .u32 3)), (.c (.int .u32 4)), (.c (.int .u32 0))]
 (.cl true (some 71) none (.c (.fn (.func 95) [] [])) [(.t 70), (.c (.str [108, 104, 117])), (.c (.int .u32 3)), (.c (.int .u32 5)), (.c (.int .u32 0))]
 (.cl true (some 73) none (.c (.fn (.func 95) [] [])) [(.t 72), (.c (.str [108, 119, 117])), (.c (.int .u32 3)), (.c (.int .u32 6)), (.c (.int .u32 0))]
 (.cl true (some 75) none (.c (.fn (.func 95) [] [])) [(.t 74), (.c (.str [115, 98])), (.c (.int .u32 35)), (.c (.int .u32 0)), (.c (.int .u32 0))]
 (.cl true (some 77) none (.c (.fn (.func 95) [] [])) [(.t 76), (.c (.str [115, 104])), (.c (.int .u32 35)), (.c (.int .u32 1)), (.c (.int .u32 0))]
 (.cl true (some 79) none (.c (.fn (.func 95) [] [])) [(.t 78), (.c (.str [115, 119])), (.c (.int .u32 35)), (.c (.int .u32 2)), (.c (.int .u32 0))]
 (.cl true (some 81) none (.c (.fn (.func 95) [] [])) [(.t 80), (.c (.str [115, 100])), (.c (.int .u32 35)), (.c (.int .u32 3)), (.c (.int .u32 0))]
 (.cl true (some 83) none (.c (.fn (.func 95) [] [])) [(.t 82), (.c (.str [97, 100, 100, 105])), (.c (.int .u32 19)), (.c (.int .u32 0)), (.c (.int .u32 0))]
 (.cl true (some 85) none (.c (.fn (.func 95) [] [])) [(.t 84), (.c (.str [115, 108, 116, 105])), (.c (.int .u32 19)), (.c (.int .u32 2)), (.c (.int .u32 0))]
 (.cl true (some 87) none (.c (.fn (.func 95) [] [])) [(.t 86), (.c (.str [115, 108, 116, 105, 117])), (.c (.int .u32 19)), (.c (.int .u32 3)), (.c (.int .u32 0))]
 (.cl true (some 89) none (.c (.fn (.func 95) [] [])) [(.t 88), (.c (.str [120, 111, 114, 105])), (.c (.int .u32 19)), (.c (.int .u32 4)), (.c (.int .u32 0))]
 (.cl true (some 91) none (.c (.fn (.func 95) [] [])) [(.t 90), (.c (.str [111, 114, 105])), (.c (.int .u32 19)), (.c (.int .u32 6)), (.c (.int .u32 0))]
 (.cl true (some 93) none (.c (.fn (.func 95) [] [])) [(.t 92), (.c (.str [97, 110, 100, 105])), (.c (.int .u32 19)), (.c (.int .u32 7)), (.c (.int .u32 0))]
 (.cl true (some 95) none (.c (.fn (.func 95) [] [])) [(.t 94), (.c (.str [115, 108, 108, 105])), (.c (.int .u32 19)), (.c (.int .u32 1)), (.c (.int .u32 0))]
 (.cl true (some 97) none (.c (.fn (.func 95) [] [])) [(.t 96), (.c (.str [115, 114, 108, 105])), (.c (.int .u32 19)), (.c (.int .u32 5)), (.c (.int .u32 0))]
 (.cl true (some 99) none (.c (.fn (.func 95) [] [])) [(.t 98), (.c (.str [115, 114, 97, 105])), (.c (.int .u32 19)), (.c (.int .u32 5)), (.c (.int .u32 32))]
 (.cl true (some 101) none (.c (.fn (.func 95) [] [])) [(.t 100), (.c (.str [97, 100, 100])), (.c (.int .u32 51)), (.c (.int .u32 0)), (.c (.int .u32 0))]
 (.cl true (some 103) none (.c (.fn (.func 95) [] [])) [(.t 102), (.c (.str [115, 117, 98])), (.c (.int .u32 51)), (.c (.int .u32 0)), (.c (.int .u32 32))]
 (.cl true (some 105) none (.c (.fn (.func 95) [] [])) [(.t 104), (.c (.str [115, 108, 108])), (.c (.int .u32 51)), (.c (.int .u32 1)), (.c (.int .u32 0))]
 (.cl true (some 107) none (.c (.fn (.func 95) [] [])) [(.t 106), (.c (.str [115, 108, 116])), (.c (.int .u32 51)), (.c (.int .u32 2)), (.c (.int .u32 0))]
 (.cl true (some 109) none (.c (.fn (.func 95) [] [])) [(.t 108), (.c (.str [115, 108, 116, 117])), (.c (.int .u32 51)), (.c (.int .u32 3)), (.c (.int .u32 0))]
 (.cl true (some 111) none (.c (.fn (.func 95) [] [])) [(.t 110), (.c (.str [120, 111, 114])), (.c (.int .u32 51)), (.c (.int .u32 4)), (.c (.int .u32 0))]
 (.cl true (some 113) none (.c (.fn (.func 95) [] [])) [(.t 112), (.c (.str [115, 114, 108])), (.c (.int .u32 51)), (.c (.int .u32 5)), (.c (.int .u32 0))]
 (.cl true (some 115) none (.c (.fn (.func 95) [] [])) [(.t 114), (.c (.str [115, 114, 97])), (.c (.int .u32 51)), (.c (.int .u32 5)), (.c (.int .u32 32))]
 (.cl true (some 117) none (.c (.fn (.func 95) [] [])) [(.t 116), (.c (.str [111, 114])), (.c (.int .u32 51)), (.c (.int .u32 6)), (.c (.int .u32 0))]
 (.cl true (some 119) none (.c (.fn (.func 95) [] [])) [(.t 118), (.c (.str [97, 110, 100])), (.c (.int .u32 51)), (.c (.int .u32 7)), (.c (.int .u32 0))]
 (.cl true (some 121) none (.c (.fn (.func 95) [] [])) [(.t 120), (.c (.str [97, 100, 100, 105, 119])), (.c (.int .u32 27)), (.c (.int .u32 0)), (.c (.int .u32 0))]
 (.cl true (some 123) none (.c (.fn (.func 95) [] [])) [(.t 122), (.c (.str [115, 108, 108, 105, 119])), (.c (.int .u32 27)), (.c (.int .u32 1)), (.c (.int .u32 0))]
 (.cl true (some 125) none (.c (.fn (.func 95) [] [])) [(.t 124), (.c (.str [115, 114, 108, 105, 119])), (.c (.int .u32 27)), (.c (.int .u32 5)), (.c (.int .u32 0))]
 (.cl true (some 127) none (.c (.fn (.func 95) [] [])) [(.t 126), (.c (.str [115, 114, 97, 105, 119])), (.c (.int .u32 27)), (.c (.int .u32 5)), (.c (.int .u32 32))]
 (.cl true (some 129) none (.c (.fn (.func 95) [] [])) [(.t 128), (.c (.str [97, 100, 100, 119])), (.c (.int .u32 59)), (.c (.int .u32 0)), (.c (.int .u32 0))]
 (.cl true (some 131) none (.c (.fn (.func 95) [] [])) [(.t 130), (.c (.str [115, 117, 98, 119])), (.c (.int .u32 59)), (.c (.int .u32 0)), (.c (.int .u32 32))]
 (.cl true (some 133) none (.c (.fn (.func 95) [] [])) [(.t 132), (.c (.str [115, 108, 108, 119])), (.c (.int .u32 59)), (.c (.int .u32 1)), (.c (.int .u32 0))]
 (.cl true (some 135) none (.c (.fn (.func 95) [] [])) [(.t 134), (.c (.str [115, 114, 108, 119])), (.c (.int .u32 59)), (.c (.int .u32 5)), (.c (.int .u32 0))]
 (.cl true (some 137) none (.c (.fn (.func 95) [] [])) [(.t 136), (.c (.str [115, 114, 97, 119])), (.c (.int .u32 59)), (.c (.int .u32 5)), (.c (.int .u32 32))]
 (.cl true (some 139) none (.c (.fn (.func 95) [] [])) [(.t 138), (.c (.str [109, 117, 108])), (.c (.int .u32 51)), (.c (.int .u32 0)), (.c (.int .u32 1))]
 (.cl true (some 141) none (.c (.fn (.func 95) [] [])) [(.t 140), (.c (.str [109, 117, 108, 104])), (.c (.int .u32 51)), (.c (.int .u32 1)), (.c (.int .u32 1))]
 (.cl true (some 143) none (.c (.fn (.func 95) [] [])) [(.t 142), (.c (.str [109, 117, 108, 104, 115, 117])), (.c (.int .u32 51)), (.c (.int .u32 2)), (.c (.int .u32 1))]
 (.cl true (some 145) none (.c (.fn (.func 95) [] [])) [(.t 144), (.c (.str [109, 117, 108, 104, 117])), (.c (.int .u32 51)), (.c (.int .u32 3)), (.c (.int .u32 1))]
 (.cl true (some 147) none (.c (.fn (.func 95) [] [])) [(.t 146), (.c (.str [100, 105, 118])), (.c (.int .u32 51)), (.c (.int .u32 4)), (.c (.int .u32 1))]
 (.cl true (some 149) none (.c (.fn (.func 95) [] [])) [(.t 148), (.c (.str [100, 105, 118, 117])), (.c (.int .u32 51)), (.c (.int .u32 5)), (.c (.int .u32 1))]
 (.cl true (some 151) none (.c (.fn (.func 95) [] [])) [(.t 150), (.c (.str [114, 101, 109])), (.c (.int .u32 51)), (.c (.int .u32 6)), (.c (.int .u32 1))]
 (.cl true (some 153) none (.c (.fn (.func 95) [] [])) [(.t 152), (.c (.str [114, 101, 109, 117])), (.c (.int .u32 51)), (.c (.int .u32 7)), (.c (.int .u32 1))]
 (.cl true (some 155) none (.c (.fn (.func 95) [] [])) [(.t 154), (.c (.str [109, 117, 108, 119])), (.c (.int .u32 59)), (.c (.int .u32 0)), (.c (.int .u32 1))]
 (.cl true (some 157) none (.c (.fn (.func 95) [] [])) [(.t 156), (.c (.str [100, 105, 118, 119])), (.c (.int .u32 59)), (.c (.int .u32 4)), (.c (.int .u32 1))]
 (.cl true (some 159) none (.c (.fn (.func 95) [] [])) [(.t 158), (.c (.str [100, 105, 118, 117, 119])), (.c (.int .u32 59)), (.c (.int .u32 5)), (.c (.int .u32 1))]
 (.cl true (some 161) none (.c (.fn (.func 95) [] [])) [(.t 160), (.c (.str [114, 101, 109, 119])), (.c (.int .u32 59)), (.c (.int .u32 6)), (.c (.int .u32 1))]
 (.cl true (some 163) none (.c (.fn (.func 95) [] [])) [(.t 162), (.c (.str [114, 101, 109, 117, 119])), (.c (.int .u32 59)), (.c (.int .u32 7)), (.c (.int .u32 1))]
 (.cl true (some 165) none (.c (.fn (.func 95) [] [])) [(.t 164), (.c (.str [102, 101, 110, 99, 101])), (.c (.int .u32 15)), (.c (.int .u32 0)), (.c (.int .u32 0))]
 (.cl true (some 167) none (.c (.fn (.func 95) [] [])) [(.t 166), (.c (.str [101, 99, 97, 108, 108])), (.c (.int .u32 115)), (.c (.int .u32 0)), (.c (.int .u32 0))]
 (.cl false (some 169) none (.c (.fn (.func 95) [] [])) [(.t 168), (.c (.str [101, 98, 114, 101, 97, 107])), (.c (.int .u32 1048691)), (.c (.int .u32 0)), (.c (.int .u32 0))]
 (.rd (some 170) none (.build (List.replicate 66 [(.bool false), (.bool false), (.bool false), (.lst 0 [] true), (.int .i64 0), (.bool false), (.int .u32 0), (.str []), (.int .u32 0)]).flatten [(9, 9, (.t 41)), (18, 9, (.t 43)), (27, 9, (.t 45)), (36, 9, (.t 47)), (45, 9, (.t 49)), (54, 9, (.t 51)), (63, 9, (.t 53)), (72, 9, (.t 55)), (81, 9, (.t 57)), (90, 9, (.t 59)), (99, 9, (.t 61)), (108, 9, (.t 63)), (117, 9, (.t 65)), (126, 9, (.t 67)), (135, 9, (.t 69)), (144, 9, (.t 71)), (153, 9, (.t 73)), (162, 9, (.t 75)), (171, 9, (.t 77)), (180, 9, (.t 79)), (189, 9, (.t 81)), (198, 9, (.t 83)), (207, 9, (.t 85)), (216, 9, (.t 87)), (225, 9, (.t 89)), (234, 9, (.t 91)), (243, 9, (.t 93)), (252, 9, (.t 95)), (261, 9, (.t 97)), (270, 9, (.t 99)), (279, 9, (.t 101)), (288, 9, (.t 103)), (297, 9, (.t 105)), (306, 9, (.t 107)), (315, 9, (.t 109)), (324, 9, (.t 111)), (333, 9, (.t 113)), (342, 9, (.t 115)), (351, 9, (.t 117)), (360, 9, (.t 119)), (369, 9, (.t 121)), (378, 9, (.t 123)), (387, 9, (.t 125)), (396, 9, (.t 127)), (405, 9, (.t 129)), (414, 9, (.t 131)), (423, 9, (.t 133)), (432, 9, (.t 135)), (441, 9, (.t 137)), (450, 9, (.t 139)), (459, 9, (.t 141)), (468, 9, (.t 143)), (477, 9, (.t 145)), (486, 9, (.t 147)), (495, 9, (.t 149)), (504, 9, (.t 151)), (513, 9, (.t 153)), (522, 9, (.t 155)), (531, 9, (.t 157)), (540, 9, (.t 159)), (549, 9, (.t 161)), (558, 9, (.t 163)), (567, 9, (.t 165)), (576, 9, (.t 167)), (585, 9, (.t 169))])
 (.wr false none none (.store 594 (.t 0) (.t 170))
 .done))))))))))))))))))))))))))))))))))))))))))))))))))))))))))))))))))))))))))))))))))))))))))))))))))))))))))))))))))))))))))))))))))))
def rv_table : AF := ⟨171, [.cell 0 true 594],
  (.seq (.reg zq1p_0 [])
  (.seq (.reg zq1p_1 [10])
  (.seq (.reg zq1p_2 [11, 12, 13])
  (.seq (.reg zq1p_3 [14, 15, 16])
  (.seq (.reg zq1p_4 [17, 18, 19])
  (.seq (.reg zq1p_5 [20, 21, 22, 23])
  (.seq (.reg zq1p_6 [24, 25, 26, 27, 28, 29])
  (.seq (.reg zq1p_7 [30, 31, 32])
  (.seq (.reg zq1p_8 [33, 34, 35, 36, 37, 38])
  (.seq (.reg zq1p_9 [39])
  (.seq (.reg zq1p_10 [40, 41, 42, 43, 44, 45, 46, 47, 48, 49, 50, 51, 52, 53, 54, 55, 56, 57, 58, 59, 60, 61, 62, 63, 64, 65, 66, 67, 68, 69, 70, 71, 72, 73, 74, 75, 76, 77, 78, 79, 80, 81, 82, 83, 84, 85, 86, 87, 88, 89, 90, 91, 92, 93, 94, 95, 96, 97, 98, 99, 100, 101, 102, 103, 104, 105, 106, 107, 108, 109, 110, 111, 112, 113, 114, 115, 116, 117, 118, 119, 120, 121, 122, 123, 124, 125, 126, 127, 128, 129, 130, 131, 132, 133, 134, 135, 136, 137, 138, 139, 140, 141, 142, 143, 144, 145, 146, 147, 148, 149, 150, 151, 152, 153, 154, 155, 156, 157, 158, 159, 160, 161, 162, 163, 164, 165, 166, 167, 168, 169, 170])
  .ret)))))))))))⟩
abbrev n_rv_table : Nat := 64
/- (proofmark/rv.form).width -/
def zq1q_0 : AT := (.wr false (some 1) none (.box 72 (.t 0))
 (.rd (some 2) none (.mov (.c (.int .i64 0)))
 .done))
def zq1q_1 : AT := (.rd (some 6) none (.faddr 4 (.t 1))
 (.rd (some 7) none (.load false 1 (.t 6))
 (.rd (some 3) none (.mov (.t 7))
 .done)))
def zq1q_2 : AT := (.rd (some 8) none (.faddr 3 (.t 1))
 (.rd (some 9) none (.load false 1 (.t 8))
 (.rd (some 10) none (.len 0 (.t 9))
 (.rd (some 11) none (.mov (.c (.int .i64 0)))
 .done))))
def zq1q_3 : AT := (.rd (some 12) none (.bin .lss (.t 11) (.t 10))
 .done)
def zq1q_4 : AT := (.rd (some 13) none (.iaddr none 2 (.t 9) (.t 11))
 (.rd (some 14) none (.load true 2 (.t 13))
 (.wr false (some 5) none (.new 81 [(.int .i64 0), (.int .i64 0)])
 (.wr false none none (.store 2 (.t 5) (.t 14))
 .done))))
def zq1q_5 : AT := (.rd (some 15) none (.mov (.t 3))
 (.rd (some 16) none (.faddr 1 (.t 5))
 (.rd (some 17) none (.load false 1 (.t 16))
 (.rd (some 18) none (.bin .add (.t 15) (.t 17))
 (.rd (some 3) none (.mov (.t 18))
 .done)))))
def zq1q_6 : AT := (.rd (some 19) none (.bin .add (.t 11) (.c (.int .i64 1)))
 (.rd (some 11) none (.mov (.t 19))
 .done))
def zq1q_7 : AT := (.rd (some 20) none (.mov (.t 3))
 (.rd (some 2) none (.mov (.t 20))
 .done))
def rv_form_width : AF := ⟨21, [.tmp 2],
  (.seq (.reg zq1q_0 [])
  (.seq (.reg zq1q_1 [6, 7])
  (.seq (.seq (.reg zq1q_2 [8])
  (.block 0 (.loop (.seq (.reg zq1q_3 [])
  (.seq (.cond (.t 12)
  .skip
  (.exit 0))
  (.seq (.block 1 (.seq (.reg zq1q_4 [13, 14])
  (.reg zq1q_5 [15, 16, 17, 18])))
  (.reg zq1q_6 [19])))))))
  (.seq (.reg zq1q_7 [20])
  .ret))))⟩
abbrev n_rv_form_width : Nat := 65
abbrev n_slices_Backward_rv_bits_rv_bits : Nat := 66
abbrev n_proofmarkref10_Decode : Nat := 67
abbrev n_proofmarkref22_allowed : Nat := 68
abbrev n_proofmarkref22_Func_stack : Nat := 69
abbrev n_proofmarkref22_Func_target : Nat := 70
abbrev n_proofmarkref22_Func_Jump : Nat := 71
abbrev n_proofmarkref22_Func_back : Nat := 72
abbrev n_proofmarkref22_Func_Restores : Nat := 73
/- slices.IndexFunc[[]proofmark/image.Sym,proofmark/image.Sym] -/
def zq1z_0 : AT := (.rd (some 4) none (.mov (.c (.int .i64 0)))
 .done)
def zq1z_1 : AT := (.rd (some 6) none (.mov (.t 0))
 (.rd (some 7) none (.len 0 (.t 6))
 (.rd (some 8) none (.mov (.c (.int .i64 0)))
 .done)))
def zq1z_2 : AT := (.rd (some 9) none (.bin .lss (.t 8) (.t 7))
 .done)
def zq1z_3 : AT := (.rd (some 10) none (.mov (.t 8))
 (.rd (some 5) none (.mov (.t 10))
 .done))
def zq1z_4 : AT := (.rd (some 11) none (.mov (.t 1))
 (.rd (some 12) none (.mov (.t 0))
 (.rd (some 13) none (.mov (.t 5))
 (.rd (some 14) none (.iaddr none 2 (.t 12) (.t 13))
 (.rd (some 15) none (.load true 2 (.t 14))
 (.cl false (some 16) none (.t 11) [(.t 15)]
 .done))))))
def zq1z_5 : AT := (.rd (some 17) none (.mov (.t 5))
 (.rd (some 4) none (.mov (.t 17))
 .done))
def zq1z_6 : AT := (.rd (some 18) none (.bin .add (.t 8) (.c (.int .i64 1)))
 (.rd (some 8) none (.mov (.t 18))
 .done))
def zq1z_7 : AT := (.rd (some 4) none (.mov (.c (.int .i64 (-1))))
 .done)
def slices_IndexFunc_image_Sym_image_Sym : AF := ⟨19, [.tmp 4],
  (.seq (.reg zq1z_0 [])
  (.seq (.seq (.reg zq1z_1 [6])
  (.block 0 (.loop (.seq (.reg zq1z_2 [])
  (.seq (.cond (.t 9)
  .skip
  (.exit 0))
  (.seq (.block 1 (.seq (.reg zq1z_3 [10])
  (.seq (.reg zq1z_4 [11, 12, 13, 14, 15])
  (.cond (.t 16)
  (.seq (.reg zq1z_5 [17])
  .ret)
  .skip))))
  (.reg zq1z_6 [18])))))))
  (.seq (.reg zq1z_7 [])
  .ret)))⟩
abbrev n_slices_IndexFunc_image_Sym_image_Sym : Nat := 74
/- slices.IndexFunc[[]func() bool,func() bool] -/
def zq20_0 : AT := (.rd (some 4) none (.mov (.c (.int .i64 0)))
 .done)
def zq20_1 : AT := (.rd (some 6) none (.mov (.t 0))
 (.rd (some 7) none (.len 0 (.t 6))
 (.rd (some 8) none (.mov (.c (.int .i64 0)))
 .done)))
def zq20_2 : AT := (.rd (some 9) none (.bin .lss (.t 8) (.t 7))
 .done)
def zq20_3 : AT := (.rd (some 10) none (.mov (.t 8))
 (.rd (some 5) none (.mov (.t 10))
 .done))
def zq20_4 : AT := (.rd (some 11) none (.mov (.t 1))
 (.rd (some 12) none (.mov (.t 0))
 (.rd (some 13) none (.mov (.t 5))
 (.rd (some 14) none (.iaddr none 1 (.t 12) (.t 13))
 (.rd (some 15) none (.load false 1 (.t 14))
 (.cl false (some 16) none (.t 11) [(.t 15)]
 .done))))))
def zq20_5 : AT := (.rd (some 17) none (.mov (.t 5))
 (.rd (some 4) none (.mov (.t 17))
 .done))
def zq20_6 : AT := (.rd (some 18) none (.bin .add (.t 8) (.c (.int .i64 1)))
 (.rd (some 8) none (.mov (.t 18))
 .done))
def zq20_7 : AT := (.rd (some 4) none (.mov (.c (.int .i64 (-1))))
 .done)
def slices_IndexFunc_func_bool_func_bool : AF := ⟨19, [.tmp 4],
  (.seq (.reg zq20_0 [])
  (.seq (.seq (.reg zq20_1 [6])
  (.block 0 (.loop (.seq (.reg zq20_2 [])
  (.seq (.cond (.t 9)
  .skip
  (.exit 0))
  (.seq (.block 1 (.seq (.reg zq20_3 [10])
  (.seq (.reg zq20_4 [11, 12, 13, 14, 15])
  (.cond (.t 16)
  (.seq (.reg zq20_5 [17])
  .ret)
  .skip))))
  (.reg zq20_6 [18])))))))
  (.seq (.reg zq20_7 [])
  .ret)))⟩
abbrev n_slices_IndexFunc_func_bool_func_bool : Nat := 75
/- slices.IndexFunc[[]proofmark/rv.row,proofmark/rv.row] -/
def zq21_0 : AT := (.rd (some 4) none (.mov (.c (.int .i64 0)))
 .done)
def zq21_1 : AT := (.rd (some 6) none (.mov (.t 0))
 (.rd (some 7) none (.len 0 (.t 6))
 (.rd (some 8) none (.mov (.c (.int .i64 0)))
 .done)))
def zq21_2 : AT := (.rd (some 9) none (.bin .lss (.t 8) (.t 7))
 .done)
def zq21_3 : AT := (.rd (some 10) none (.mov (.t 8))
 (.rd (some 5) none (.mov (.t 10))
 .done))
def zq21_4 : AT := (.rd (some 11) none (.mov (.t 1))
 (.rd (some 12) none (.mov (.t 0))
 (.rd (some 13) none (.mov (.t 5))
 (.rd (some 14) none (.iaddr none 9 (.t 12) (.t 13))
 (.rd (some 15) none (.load true 9 (.t 14))
 (.cl false (some 16) none (.t 11) [(.t 15)]
 .done))))))
def zq21_5 : AT := (.rd (some 17) none (.mov (.t 5))
 (.rd (some 4) none (.mov (.t 17))
 .done))
def zq21_6 : AT := (.rd (some 18) none (.bin .add (.t 8) (.c (.int .i64 1)))
 (.rd (some 8) none (.mov (.t 18))
 .done))
def zq21_7 : AT := (.rd (some 4) none (.mov (.c (.int .i64 (-1))))
 .done)
def slices_IndexFunc_rv_row_rv_row : AF := ⟨19, [.tmp 4],
  (.seq (.reg zq21_0 [])
  (.seq (.seq (.reg zq21_1 [6])
  (.block 0 (.loop (.seq (.reg zq21_2 [])
  (.seq (.cond (.t 9)
  .skip
  (.exit 0))
  (.seq (.block 1 (.seq (.reg zq21_3 [10])
  (.seq (.reg zq21_4 [11, 12, 13, 14, 15])
  (.cond (.t 16)
  (.seq (.reg zq21_5 [17])
  .ret)
  .skip))))
  (.reg zq21_6 [18])))))))
  (.seq (.reg zq21_7 [])
  .ret)))⟩
abbrev n_slices_IndexFunc_rv_row_rv_row : Nat := 76
/- proofmark/rv.Decode$1 -/
def zq22_0 : AT := (.wr false (some 2) none (.box 74 (.t 0))
 (.rd (some 3) none (.mov (.c (.bool false)))
 .done))
def zq22_1 : AT := (.rd (some 4) none (.faddr 0 (.t 2))
 (.rd (some 5) none (.faddr 6 (.t 4))
 (.rd (some 6) none (.load false 1 (.t 5))
 (.rd (some 7) none (.bin .neq (.t 6) (.c (.int .u32 0)))
 (.rd (some 8) none (.mov (.t 7))
 (.rd (some 9) (some (8, true)) (.load false 1 (.t 1))
 (.rd (some 10) (some (8, true)) (.faddr 0 (.t 2))
 (.rd (some 11) (some (8, true)) (.faddr 6 (.t 10))
 (.rd (some 12) (some (8, true)) (.load false 1 (.t 11))
 (.rd (some 13) (some (8, true)) (.bin .and (.t 9) (.t 12))
 (.rd (some 14) (some (8, true)) (.faddr 8 (.t 2))
 (.rd (some 15) (some (8, true)) (.load false 1 (.t 14))
 (.rd (some 16) (some (8, true)) (.bin .eql (.t 13) (.t 15))
 (.rd (some 17) none (.pick (.t 8) (.t 16) (.c (.bool false)))
 (.rd (some 3) none (.mov (.t 17))
 .done)))))))))))))))
def rv_Decode_S1 : AF := ⟨18, [.tmp 3],
  (.seq (.reg zq22_0 [])
  (.seq (.reg zq22_1 [4, 5, 6, 7, 8, 9, 10, 11, 12, 13, 14, 15, 16, 17])
  .ret))⟩
abbrev n_rv_Decode_S1 : Nat := 77
/- (proofmark/rv.form).number -/
def zq23_0 : AT := (.wr false (some 2) none (.box 72 (.t 0))
 (.rd (some 4) none (.mov (.c (.int .i64 0)))
 .done))
def zq23_1 : AT := (.rd (some 5) none (.mov (.c (.int .i64 0)))
 .done)
def zq23_2 : AT := (.rd (some 8) none (.faddr 3 (.t 2))
 (.rd (some 9) none (.load false 1 (.t 8))
 (.rd (some 10) none (.len 0 (.t 9))
 (.rd (some 11) none (.mov (.c (.int .i64 0)))
 .done))))
def zq23_3 : AT := (.rd (some 12) none (.bin .lss (.t 11) (.t 10))
 .done)
def zq23_4 : AT := (.rd (some 13) none (.iaddr none 2 (.t 9) (.t 11))
 (.rd (some 14) none (.load true 2 (.t 13))
 (.wr false (some 7) none (.new 81 [(.int .i64 0), (.int .i64 0)])
 (.wr false none none (.store 2 (.t 7) (.t 14))
 .done))))
def zq23_5 : AT := (.rd (some 15) none (.mov (.t 5))
 (.rd (some 16) none (.faddr 1 (.t 7))
 (.rd (some 17) none (.load false 1 (.t 16))
 (.rd (some 18) none (.bin .shl (.t 15) (.t 17))
 (.rd (some 19) none (.load true 2 (.t 7))
 (.rd (some 20) none (.mov (.t 1))
 (.cl true (some 21) none (.c (.fn (.func 79) [] [])) [(.t 19), (.t 20)]
 (.rd (some 22) none (.conv .i64 (.t 21))
 (.rd (some 23) none (.bin .or (.t 18) (.t 22))
 (.rd (some 5) none (.mov (.t 23))
 .done))))))))))
def zq23_6 : AT := (.rd (some 24) none (.bin .add (.t 11) (.c (.int .i64 1)))
 (.rd (some 11) none (.mov (.t 24))
 .done))
def zq23_7 : AT := (.rd (some 25) none (.mov (.t 5))
 (.rd (some 26) none (.faddr 4 (.t 2))
 (.rd (some 27) none (.load false 1 (.t 26))
 (.rd (some 28) none (.bin .shl (.t 25) (.t 27))
 (.rd (some 5) none (.mov (.t 28))
 .done)))))
def zq23_8 : AT := (.rd (some 29) none (.faddr 5 (.t 2))
 (.rd (some 30) none (.load false 1 (.t 29))
 .done))
def zq23_9 : AT := (.rd (some 31) none (.mov (.t 5))
 (.rd (some 32) none (.load true 7 (.t 2))
 (.rd (some 36) none (.load true 7 (.t 2))
 (.cl true (some 33) none (.c (.fn (.func 65) [] [])) [(.t 32)]
 (.rd (some 34) none (.bin .sub (.c (.int .i64 64)) (.t 33))
 (.rd (some 35) none (.bin .shl (.t 31) (.t 34))
 (.cl false (some 37) none (.c (.fn (.func 65) [] [])) [(.t 36)]
 (.rd (some 38) none (.bin .sub (.c (.int .i64 64)) (.t 37))
 (.rd (some 39) none (.bin .shr (.t 35) (.t 38))
 (.rd (some 5) none (.mov (.t 39))
 .done))))))))))
def zq23_10 : AT := (.rd (some 40) none (.mov (.t 5))
 (.rd (some 4) none (.mov (.t 40))
 .done))
def rv_form_number : AF := ⟨41, [.tmp 4],
  (.seq (.reg zq23_0 [])
  (.seq (.reg zq23_1 [])
  (.seq (.seq (.reg zq23_2 [8])
  (.block 0 (.loop (.seq (.reg zq23_3 [])
  (.seq (.cond (.t 12)
  .skip
  (.exit 0))
  (.seq (.block 1 (.seq (.reg zq23_4 [13, 14])
  (.reg zq23_5 [15, 16, 17, 18, 19, 20, 21, 22, 23])))
  (.reg zq23_6 [24])))))))
  (.seq (.reg zq23_7 [25, 26, 27, 28])
  (.seq (.seq (.reg zq23_8 [29])
  (.cond (.t 30)
  (.reg zq23_9 [31, 32, 33, 34, 35, 36, 37, 38, 39])
  .skip))
  (.seq (.reg zq23_10 [40])
  .ret))))))⟩
abbrev n_rv_form_number : Nat := 78
/- (proofmark/rv.bits).of -/
def zq24_0 : AT := (.wr false (some 2) none (.box 81 (.t 0))
 (.rd (some 4) none (.mov (.c (.int .u32 0)))
 .done))
def zq24_1 : AT := (.rd (some 5) none (.mov (.t 1))
 (.rd (some 6) none (.faddr 0 (.t 2))
 (.rd (some 7) none (.load false 1 (.t 6))
 (.rd (some 8) none (.bin .shr (.t 5) (.t 7))
 (.rd (some 9) none (.faddr 1 (.t 2))
 (.rd (some 10) none (.load false 1 (.t 9))
 (.rd (some 11) none (.bin .shl (.c (.int .u32 1)) (.t 10))
 (.rd (some 12) none (.bin .sub (.t 11) (.c (.int .u32 1)))
 (.rd (some 13) none (.bin .and (.t 8) (.t 12))
 (.rd (some 4) none (.mov (.t 13))
 .done))))))))))
def rv_bits_of : AF := ⟨14, [.tmp 4],
  (.seq (.reg zq24_0 [])
  (.seq (.reg zq24_1 [5, 6, 7, 8, 9, 10, 11, 12, 13])
  .ret))⟩
abbrev n_rv_bits_of : Nat := 79
/- (*proofmark/regions.reader).op -/
def zq25_0 : AT := (.rd (some 4) none (.mov (.c (.bool false)))
 .done)
def zq25_1 : AT := (.rd (some 7) none (.mov (.t 0))
 (.rd (some 8) none (.nilc (.t 7))
 (.rd (some 9) none (.faddr 3 (.t 8))
 (.rd (some 10) none (.faddr 2 (.t 9))
 (.rd (some 11) none (.load false 1 (.t 10))
 (.rd (some 12) none (.mov (.t 1))
 (.rd (some 13) none (.iaddr none 5 (.t 11) (.t 12))
 (.rd (some 14) none (.faddr 0 (.t 13))
 (.rd (some 15) none (.load false 1 (.t 14))
 (.wr false (some 5) none (.new 5 [(.int .u8 0)])
 (.wr false none none (.store 1 (.t 5) (.t 15))
 .done)))))))))))
def zq25_2 : AT := (.rd (some 16) none (.mkfn (.func 105) [] [(.t 5)])
 (.rd (some 6) none (.mov (.t 16))
 .done))
def zq25_3 : AT := (.rd (some 17) none (.mov (.t 6))
 (.cl false (some 18) none (.t 17) [(.c (.int .u8 1)), (.c (.int .u8 10))]
 (.rd (some 19) none (.mov (.t 18))
 (.rd (some 20) (some (19, false)) (.mov (.t 6))
 (.cl false (some 21) (some (19, false)) (.t 20) [(.c (.int .u8 22)), (.c (.int .u8 49))]
 (.rd (some 22) none (.pick (.t 19) (.c (.bool true)) (.t 21))
 (.rd (some 23) none (.mov (.t 22))
 (.rd (some 24) (some (23, false)) (.mov (.t 6))
 (.cl false (some 25) (some (23, false)) (.t 24) [(.c (.int .u8 54)), (.c (.int .u8 62))]
 (.rd (some 26) none (.pick (.t 23) (.c (.bool true)) (.t 25))
 (.rd (some 27) none (.mov (.t 26))
 (.wr false (some 28) (some (27, false)) (.bsl false false 5 1 [(.int .u8 0)] 4 [(0, 1, (.c (.int .u8 14))), (1, 1, (.c (.int .u8 21))), (2, 1, (.c (.int .u8 50))), (3, 1, (.c (.int .u8 64)))])
 (.rd (some 29) (some (27, false)) (.load false 1 (.t 5))
 (.cl false (some 30) (some (27, false)) (.c (.fn (.func 106) [] [])) [(.t 28), (.t 29)]
 (.rd (some 31) none (.pick (.t 27) (.c (.bool true)) (.t 30))
 (.rd (some 4) none (.mov (.t 31))
 .done))))))))))))))))
def regions_reader_op : AF := ⟨32, [.tmp 4],
  (.seq (.reg zq25_0 [])
  (.seq (.reg zq25_1 [7, 8, 9, 10, 11, 12, 13, 14, 15])
  (.seq (.reg zq25_2 [16])
  (.seq (.reg zq25_3 [17, 18, 19, 20, 21, 22, 23, 24, 25, 26, 27, 28, 29, 30, 31])
  .ret))))⟩
abbrev n_regions_reader_op : Nat := 80
/- (*proofmark/regions.reader).stack -/
def zq26_0 : AT := (.rd (some 4) none (.mov (.c (.bool false)))
 .done)
def zq26_1 : AT := (.rd (some 8) none (.mov (.t 0))
 (.rd (some 9) none (.nilc (.t 8))
 (.rd (some 10) none (.faddr 3 (.t 9))
 (.rd (some 11) none (.faddr 2 (.t 10))
 (.rd (some 12) none (.load false 1 (.t 11))
 (.rd (some 13) none (.mov (.t 1))
 (.rd (some 14) none (.iaddr none 5 (.t 12) (.t 13))
 (.rd (some 15) none (.load true 5 (.t 14))
 (.wr false (some 5) none (.new 47 [(.int .u8 0), (.int .u8 0), (.int .u8 0), (.int .u8 0), (.int .i64 0)])
 (.wr false none none (.store 5 (.t 5) (.t 15))
 .done))))))))))
def zq26_2 : AT := (.rd (some 16) none (.mov (.t 1))
 (.rd (some 17) none (.bin .eql (.t 16) (.c (.int .i64 0)))
 (.rd (some 18) none (.mov (.t 17))
 (.rd (some 19) (some (18, true)) (.mov (.t 0))
 (.rd (some 20) (some (18, true)) (.nilc (.t 19))
 (.rd (some 21) (some (18, true)) (.faddr 3 (.t 20))
 (.rd (some 22) (some (18, true)) (.faddr 3 (.t 21))
 (.rd (some 23) (some (18, true)) (.load false 1 (.t 22))
 (.rd (some 24) (some (18, true)) (.bin .gtr (.t 23) (.c (.int .i64 0)))
 (.rd (some 25) none (.pick (.t 18) (.t 24) (.c (.bool false)))
 (.rd (some 26) none (.mov (.t 25))
 (.rd (some 27) (some (26, false)) (.mov (.t 0))
 (.rd (some 28) (some (26, false)) (.nilc (.t 27))
 (.rd (some 29) (some (26, false)) (.faddr 3 (.t 28))
 (.rd (some 30) (some (26, false)) (.load true 5 (.t 29))
 (.rd (some 31) (some (26, false)) (.mov (.t 1))
 (.cl false (some 32) (some (26, false)) (.c (.fn (.func 37) [] [])) [(.t 30), (.t 31)]
 (.rd (some 33) none (.pick (.t 26) (.c (.bool true)) (.t 32))
 .done))))))))))))))))))
def zq26_3 : AT := (.rd (some 4) none (.mov (.c (.bool true)))
 .done)
def zq26_4 : AT := (.rd (some 35) none (.load true 5 (.t 5))
 (.cl false (some 36) none (.c (.fn (.func 30) [] [])) [(.t 35)]
 (.rd (some 34) none (.mov (.t 36))
 (.rd (some 37) none (.extr (.t 34) 0)
 (.rd (some 38) none (.extr (.t 34) 1)
 (.rd (some 6) none (.mov (.t 37))
 (.rd (some 7) none (.mov (.t 38))
 .done)))))))
def zq26_5 : AT := (.rd (some 39) none (.mov (.t 7))
 (.rd (some 40) none (.mov (.t 39))
 (.rd (some 41) (some (40, true)) (.mov (.t 6))
 (.rd (some 42) (some (40, true)) (.bin .eql (.t 41) (.c (.int .u8 2)))
 (.rd (some 43) none (.pick (.t 40) (.t 42) (.c (.bool false)))
 .done)))))
def zq26_6 : AT := (.rd (some 4) none (.mov (.c (.bool false)))
 .done)
def zq26_7 : AT := (.rd (some 44) none (.load true 5 (.t 5))
 (.cl false (some 45) none (.c (.fn (.func 107) [] [])) [(.t 44)]
 (.cl false (some 46) none (.c (.fn (.func 106) [] [])) [(.t 45), (.c (.int .u8 2))]
 (.rd (some 47) none (.un .not (.t 46))
 .done))))
def zq26_8 : AT := (.rd (some 4) none (.mov (.c (.bool true)))
 .done)
def zq26_9 : AT := (.rd (some 48) none (.faddr 0 (.t 5))
 (.rd (some 49) none (.load false 1 (.t 48))
 .done))
def zq26_10 : AT := (.rd (some 51) none (.bin .eql (.t 49) (.c (.int .u8 14)))
 (.rd (some 50) none (.mov (.t 51))
 .done))
def zq26_11 : AT := (.rd (some 4) none (.mov (.c (.bool true)))
 .done)
def zq26_12 : AT := (.rd (some 53) none (.bin .eql (.t 49) (.c (.int .u8 21)))
 (.rd (some 52) none (.mov (.t 53))
 .done))
def zq26_13 : AT := (.rd (some 54) none (.bin .eql (.t 49) (.c (.int .u8 10)))
 (.rd (some 52) none (.mov (.t 54))
 .done))
def zq26_14 : AT := (.rd (some 55) none (.faddr 3 (.t 5))
 (.rd (some 56) none (.load false 1 (.t 55))
 (.rd (some 57) none (.bin .neq (.t 56) (.c (.int .u8 2)))
 (.rd (some 4) none (.mov (.t 57))
 .done))))
def zq26_15 : AT := (.rd (some 4) none (.mov (.c (.bool false)))
 .done)
def regions_reader_stack : AF := ⟨58, [.tmp 4],
  (.seq (.reg zq26_0 [])
  (.seq (.reg zq26_1 [8, 9, 10, 11, 12, 13, 14, 15])
  (.seq (.seq (.reg zq26_2 [16, 17, 18, 19, 20, 21, 22, 23, 24, 25, 26, 27, 28, 29, 30, 31, 32])
  (.cond (.t 33)
  (.seq (.reg zq26_3 [])
  .ret)
  .skip))
  (.seq (.seq (.reg zq26_4 [35, 36, 34, 37, 38])
  (.seq (.reg zq26_5 [39, 40, 41, 42])
  (.cond (.t 43)
  (.seq (.reg zq26_6 [])
  .ret)
  .skip)))
  (.seq (.seq (.reg zq26_7 [44, 45, 46])
  (.cond (.t 47)
  (.seq (.reg zq26_8 [])
  .ret)
  .skip))
  (.seq (.seq (.reg zq26_9 [48])
  (.block 0 (.seq (.reg zq26_10 [51])
  (.cond (.t 50)
  (.seq (.reg zq26_11 [])
  .ret)
  (.seq (.seq (.reg zq26_12 [53])
  (.cond (.t 52)
  .skip
  (.reg zq26_13 [54])))
  (.cond (.t 52)
  (.seq (.reg zq26_14 [55, 56, 57])
  .ret)
  .skip))))))
  (.seq (.reg zq26_15 [])
  .ret)))))))⟩
abbrev n_regions_reader_stack : Nat := 81
/- (*proofmark/regions.reader).target -/
def zq27_0 : AT := (.rd (some 4) none (.mov (.c (.bool false)))
 .done)
def zq27_1 : AT := (.rd (some 8) none (.mov (.t 0))
 (.rd (some 9) none (.nilc (.t 8))
 (.rd (some 10) none (.faddr 3 (.t 9))
 (.rd (some 11) none (.faddr 2 (.t 10))
 (.rd (some 12) none (.load false 1 (.t 11))
 (.rd (some 13) none (.mov (.t 1))
 (.rd (some 14) none (.iaddr none 5 (.t 12) (.t 13))
 (.rd (some 15) none (.load true 5 (.t 14))
 (.wr false (some 5) none (.new 47 [(.int .u8 0), (.int .u8 0), (.int .u8 0), (.int .u8 0), (.int .i64 0)])
 (.wr false none none (.store 5 (.t 5) (.t 15))
 .done))))))))))
def zq27_2 : AT := (.rd (some 17) none (.load true 5 (.t 5))
 (.cl false (some 18) none (.c (.fn (.func 24) [] [])) [(.t 17)]
 (.rd (some 16) none (.mov (.t 18))
 .done)))
def zq27_3 : AT := (.rd (some 19) none (.mov (.t 1))
 (.rd (some 20) none (.faddr 4 (.t 5))
 (.rd (some 21) none (.load false 1 (.t 20))
 (.rd (some 22) none (.bin .quo (.t 21) (.c (.int .i64 4)))
 (.rd (some 23) none (.bin .add (.t 19) (.t 22))
 (.rd (some 6) none (.mov (.t 23))
 .done))))))
def zq27_4 : AT := (.rd (some 24) none (.faddr 4 (.t 5))
 (.rd (some 25) none (.load false 1 (.t 24))
 (.rd (some 26) none (.bin .rem (.t 25) (.c (.int .i64 4)))
 (.rd (some 27) none (.bin .eql (.t 26) (.c (.int .i64 0)))
 (.rd (some 28) none (.mov (.t 27))
 (.rd (some 29) (some (28, true)) (.mov (.t 6))
 (.rd (some 30) (some (28, true)) (.bin .gtr (.t 29) (.c (.int .i64 0)))
 (.rd (some 31) none (.pick (.t 28) (.t 30) (.c (.bool false)))
 (.rd (some 32) none (.mov (.t 31))
 (.rd (some 33) (some (32, true)) (.mov (.t 6))
 (.rd (some 34) (some (32, true)) (.mov (.t 0))
 (.rd (some 35) (some (32, true)) (.nilc (.t 34))
 (.rd (some 36) (some (32, true)) (.faddr 3 (.t 35))
 (.rd (some 37) (some (32, true)) (.faddr 2 (.t 36))
 (.rd (some 38) (some (32, true)) (.load false 1 (.t 37))
 (.rd (some 39) (some (32, true)) (.len 0 (.t 38))
 (.rd (some 40) (some (32, true)) (.bin .lss (.t 33) (.t 39))
 (.rd (some 41) none (.pick (.t 32) (.t 40) (.c (.bool false)))
 (.rd (some 42) none (.mov (.t 41))
 (.rd (some 43) (some (42, true)) (.mov (.t 0))
 (.rd (some 44) (some (42, true)) (.nilc (.t 43))
 (.rd (some 45) (some (42, true)) (.faddr 3 (.t 44))
 (.rd (some 46) (some (42, true)) (.faddr 3 (.t 45))
 (.rd (some 47) (some (42, true)) (.load false 1 (.t 46))
 (.rd (some 48) (some (42, true)) (.bin .gtr (.t 47) (.c (.int .i64 0)))
 (.rd (some 49) (some (42, true)) (.mov (.t 48))
 (.rd (some 50) (some (49, true)) (.mov (.t 0))
 (.rd (some 51) (some (49, true)) (.nilc (.t 50))
 (.rd (some 52) (some (49, true)) (.faddr 3 (.t 51))
 (.rd (some 53) (some (49, true)) (.load true 5 (.t 52))
 (.rd (some 54) (some (49, true)) (.mov (.t 6))
 (.cl false (some 55) (some (49, true)) (.c (.fn (.func 15) [] [])) [(.t 53), (.t 54)]
 (.rd (some 56) (some (42, true)) (.pick (.t 49) (.t 55) (.c (.bool false)))
 (.rd (some 57) (some (42, true)) (.un .not (.t 56))
 (.rd (some 58) none (.pick (.t 42) (.t 57) (.c (.bool false)))
 (.rd (some 4) none (.mov (.t 58))
 .done))))))))))))))))))))))))))))))))))))
def zq27_5 : AT := (.rd (some 60) none (.faddr 0 (.t 5))
 (.rd (some 61) none (.load false 1 (.t 60))
 (.rd (some 62) none (.bin .eql (.t 61) (.c (.int .u8 3)))
 (.rd (some 59) none (.mov (.t 62))
 .done))))
def zq27_6 : AT := (.rd (some 63) none (.mov (.t 0))
 (.rd (some 64) none (.nilc (.t 63))
 (.rd (some 65) none (.faddr 3 (.t 64))
 (.rd (some 66) none (.faddr 1 (.t 65))
 (.rd (some 67) none (.load false 1 (.t 66))
 (.rd (some 68) none (.mov (.t 1))
 (.rd (some 69) none (.bin .mul (.c (.int .i64 4)) (.t 68))
 (.rd (some 70) none (.bin .add (.t 67) (.t 69))
 (.rd (some 71) none (.faddr 4 (.t 5))
 (.rd (some 72) none (.load false 1 (.t 71))
 (.rd (some 73) none (.bin .add (.t 70) (.t 72))
 (.wr true (some 7) none (.new 2 [(.int .i64 0)])
 (.wr false none none (.store 1 (.t 7) (.t 73))
 .done)))))))))))))
def zq27_7 : AT := (.rd (some 74) none (.faddr 1 (.t 5))
 (.rd (some 75) none (.load false 1 (.t 74))
 (.rd (some 76) none (.bin .eql (.t 75) (.c (.int .u8 1)))
 (.rd (some 77) none (.mov (.t 76))
 (.rd (some 78) (some (77, true)) (.mov (.t 0))
 (.rd (some 79) (some (77, true)) (.nilc (.t 78))
 (.rd (some 80) (some (77, true)) (.faddr 0 (.t 79))
 (.rd (some 81) (some (77, true)) (.faddr 1 (.t 80))
 (.rd (some 82) (some (77, true)) (.load false 1 (.t 81))
 (.rd (some 83) (some (77, true)) (.mkfn (.func 108) [] [(.t 7)])
 (.cl false (some 84) (some (77, true)) (.c (.fn (.func 53) [] [])) [(.t 82), (.t 83)]
 (.rd (some 85) none (.pick (.t 77) (.t 84) (.c (.bool false)))
 (.rd (some 4) none (.mov (.t 85))
 .done)))))))))))))
def zq27_8 : AT := (.rd (some 4) none (.mov (.c (.bool true)))
 .done)
def regions_reader_target : AF := ⟨86, [.tmp 4],
  (.seq (.reg zq27_0 [])
  (.seq (.reg zq27_1 [8, 9, 10, 11, 12, 13, 14, 15])
  (.seq (.block 0 (.seq (.reg zq27_2 [17, 18])
  (.cond (.t 16)
  (.seq (.reg zq27_3 [19, 20, 21, 22, 23])
  (.seq (.reg zq27_4 [24, 25, 26, 27, 28, 29, 30, 31, 32, 33, 34, 35, 36, 37, 38, 39, 40, 41, 42, 43, 44, 45, 46, 47, 48, 49, 50, 51, 52, 53, 54, 55, 56, 57, 58])
  .ret))
  (.seq (.reg zq27_5 [60, 61, 62])
  (.cond (.t 59)
  (.seq (.reg zq27_6 [63, 64, 65, 66, 67, 68, 69, 70, 71, 72, 73])
  (.seq (.reg zq27_7 [74, 75, 76, 77, 78, 79, 80, 81, 82, 83, 84, 85])
  .ret))
  .skip)))))
  (.seq (.reg zq27_8 [])
  .ret))))⟩
abbrev n_regions_reader_target : Nat := 82
/- (*proofmark/regions.reader).back -/
def zq28_0 : AT := (.rd (some 4) none (.mov (.c (.bool false)))
 .done)
def zq28_1 : AT := (.rd (some 5) none (.mov (.t 0))
 (.rd (some 6) none (.nilc (.t 5))
 (.rd (some 7) none (.faddr 3 (.t 6))
 (.rd (some 8) none (.faddr 2 (.t 7))
 (.rd (some 9) none (.load false 1 (.t 8))
 (.rd (some 10) none (.mov (.t 1))
 (.rd (some 11) none (.iaddr none 5 (.t 9) (.t 10))
 (.rd (some 12) none (.faddr 0 (.t 11))
 (.rd (some 13) none (.load false 1 (.t 12))
 (.rd (some 14) none (.bin .neq (.t 13) (.c (.int .u8 4)))
 (.rd (some 15) none (.mov (.t 14))
 (.rd (some 16) (some (15, false)) (.mov (.t 0))
 (.rd (some 17) (some (15, false)) (.nilc (.t 16))
 (.rd (some 18) (some (15, false)) (.faddr 3 (.t 17))
 (.rd (some 19) (some (15, false)) (.load true 5 (.t 18))
 (.rd (some 20) (some (15, false)) (.mov (.t 1))
 (.cl false (some 21) (some (15, false)) (.c (.fn (.func 15) [] [])) [(.t 19), (.t 20)]
 (.rd (some 22) none (.pick (.t 15) (.c (.bool true)) (.t 21))
 (.rd (some 4) none (.mov (.t 22))
 .done)))))))))))))))))))
def regions_reader_back : AF := ⟨23, [.tmp 4],
  (.seq (.reg zq28_0 [])
  (.seq (.reg zq28_1 [5, 6, 7, 8, 9, 10, 11, 12, 13, 14, 15, 16, 17, 18, 19, 20, 21, 22])
  .ret))⟩
abbrev n_regions_reader_back : Nat := 83
abbrev n_slices_insertionSortOrdered_int : Nat := 84
abbrev n_slices_heapSortOrdered_int : Nat := 85
abbrev n_slices_breakPatternsOrdered_int : Nat := 86
abbrev n_slices_choosePivotOrdered_int : Nat := 87
abbrev n_slices_reverseRangeOrdered_int : Nat := 88
abbrev n_slices_partialInsertionSortOrdered_int : Nat := 89
abbrev n_cmp_Less_int : Nat := 90
abbrev n_slices_partitionEqualOrdered_int : Nat := 91
abbrev n_slices_partitionOrdered_int : Nat := 92
/- math/bits.Len32 -/
def zq2i_0 : AT := (.rd (some 2) none (.mov (.c (.int .i64 0)))
 .done)
def zq2i_1 : AT := (.rd (some 3) none (.mov (.t 0))
 (.rd (some 4) none (.bin .geq (.t 3) (.c (.int .u32 65536)))
 .done))
def zq2i_2 : AT := (.rd (some 5) none (.mov (.t 0))
 (.rd (some 6) none (.bin .shr (.t 5) (.c (.int .u64 16)))
 (.rd (some 0) none (.mov (.t 6))
 .done)))
def zq2i_3 : AT := (.rd (some 2) none (.mov (.c (.int .i64 16)))
 .done)
def zq2i_4 : AT := (.rd (some 7) none (.mov (.t 0))
 (.rd (some 8) none (.bin .geq (.t 7) (.c (.int .u32 256)))
 .done))
def zq2i_5 : AT := (.rd (some 9) none (.mov (.t 0))
 (.rd (some 10) none (.bin .shr (.t 9) (.c (.int .u64 8)))
 (.rd (some 0) none (.mov (.t 10))
 .done)))
def zq2i_6 : AT := (.rd (some 11) none (.mov (.t 2))
 (.rd (some 12) none (.bin .add (.t 11) (.c (.int .i64 8)))
 (.rd (some 2) none (.mov (.t 12))
 .done)))
def zq2i_7 : AT := (.rd (some 13) none (.mov (.t 2))
 (.rd (some 14) none (.mov (.t 0))
 (.rd (some 15) none (.conv .u8 (.t 14))
 (.rd (some 16) none (.sidx (.c (.str [0, 1, 2, 2, 3, 3, 3, 3, 4, 4, 4, 4, 4, 4, 4, 4, 5, 5, 5, 5, 5, 5, 5, 5, 5, 5, 5, 5, 5, 5, 5, 5, 6, 6, 6, 6, 6, 6, 6, 6, 6, 6, 6, 6, 6, 6, 6, 6, 6, 6, 6, 6, 6, 6, 6, 6, 6, 6, 6, 6, 6, 6, 6, 6, 7, 7, 7, 7, 7, 7, 7, 7, 7, 7, 7, 7, 7, 7, 7, 7, 7, 7, 7, 7, 7, 7, 7, 7, 7, 7, 7, 7, 7, 7, 7, 7, 7, 7, 7, 7, 7, 7, 7, 7, 7, 7, 7, 7, 7, 7, 7, 7, 7, 7, 7, 7, 7, 7, 7, 7, 7, 7, 7, 7, 7, 7, 7, 7, 8, 8, 8, 8, 8, 8, 8, 8, 8, 8, 8, 8, 8, 8, 8, 8, 8, 8, 8, 8, 8, 8, 8, 8, 8, 8, 8, 8, 8, 8, 8, 8, 8, 8, 8, 8, 8, 8, 8, 8, 8, 8, 8, 8, 8, 8, 8, 8, 8, 8, 8, 8, 8, 8, 8, 8, 8, 8, 8, 8, 8, 8, 8, 8, 8, 8, 8, 8, 8, 8, 8, 8, 8, 8, 8, 8, 8, 8, 8, 8, 8, 8, 8, 8, 8, 8, 8, 8, 8, 8, 8, 8, 8, 8, 8, 8, 8, 8, 8, 8, 8, 8, 8, 8, 8, 8, 8, 8, 8, 8, 8, 8, 8, 8, 8, 8, 8, 8, 8, 8, 8, 8, 8, 8, 8, 8, 8, 8])) (.t 15))
 (.rd (some 17) none (.conv .i64 (.t 16))
 (.rd (some 18) none (.bin .add (.t 13) (.t 17))
 (.rd (some 2) none (.mov (.t 18))
 .done)))))))
def math_bits_Len32 : AF := ⟨19, [.tmp 2],
  (.seq (.reg zq2i_0 [])
  (.seq (.seq (.reg zq2i_1 [3])
  (.cond (.t 4)
  (.seq (.reg zq2i_2 [5, 6])
  (.reg zq2i_3 []))
  .skip))
  (.seq (.seq (.reg zq2i_4 [7])
  (.cond (.t 8)
  (.seq (.reg zq2i_5 [9, 10])
  (.reg zq2i_6 [11, 12]))
  .skip))
  (.seq (.reg zq2i_7 [13, 14, 15, 16, 17, 18])
  .ret))))⟩
abbrev n_math_bits_Len32 : Nat := 93
/- math/bits.Len64 -/
def zq2j_0 : AT := (.rd (some 2) none (.mov (.c (.int .i64 0)))
 .done)
def zq2j_1 : AT := (.rd (some 3) none (.mov (.t 0))
 (.rd (some 4) none (.bin .geq (.t 3) (.c (.int .u64 4294967296)))
 .done))
def zq2j_2 : AT := (.rd (some 5) none (.mov (.t 0))
 (.rd (some 6) none (.bin .shr (.t 5) (.c (.int .u64 32)))
 (.rd (some 0) none (.mov (.t 6))
 .done)))
def zq2j_3 : AT := (.rd (some 2) none (.mov (.c (.int .i64 32)))
 .done)
def zq2j_4 : AT := (.rd (some 7) none (.mov (.t 0))
 (.rd (some 8) none (.bin .geq (.t 7) (.c (.int .u64 65536)))
 .done))
def zq2j_5 : AT := (.rd (some 9) none (.mov (.t 0))
 (.rd (some 10) none (.bin .shr (.t 9) (.c (.int .u64 16)))
 (.rd (some 0) none (.mov (.t 10))
 .done)))
def zq2j_6 : AT := (.rd (some 11) none (.mov (.t 2))
 (.rd (some 12) none (.bin .add (.t 11) (.c (.int .i64 16)))
 (.rd (some 2) none (.mov (.t 12))
 .done)))
def zq2j_7 : AT := (.rd (some 13) none (.mov (.t 0))
 (.rd (some 14) none (.bin .geq (.t 13) (.c (.int .u64 256)))
 .done))
def zq2j_8 : AT := (.rd (some 15) none (.mov (.t 0))
 (.rd (some 16) none (.bin .shr (.t 15) (.c (.int .u64 8)))
 (.rd (some 0) none (.mov (.t 16))
 .done)))
def zq2j_9 : AT := (.rd (some 17) none (.mov (.t 2))
 (.rd (some 18) none (.bin .add (.t 17) (.c (.int .i64 8)))
 (.rd (some 2) none (.mov (.t 18))
 .done)))
def zq2j_10 : AT := (.rd (some 19) none (.mov (.t 2))
 (.rd (some 20) none (.mov (.t 0))
 (.rd (some 21) none (.conv .u8 (.t 20))
 (.rd (some 22) none (.sidx (.c (.str [0, 1, 2, 2, 3, 3, 3, 3, 4, 4, 4, 4, 4, 4, 4, 4, 5, 5, 5, 5, 5, 5, 5, 5, 5, 5, 5, 5, 5, 5, 5, 5, 6, 6, 6, 6, 6, 6, 6, 6, 6, 6, 6, 6, 6, 6, 6, 6, 6, 6, 6, 6, 6, 6, 6, 6, 6, 6, 6, 6, 6, 6, 6, 6, 7, 7, 7, 7, 7, 7, 7, 7, 7, 7, 7, 7, 7, 7, 7, 7, 7, 7, 7, 7, 7, 7, 7, 7, 7, 7, 7, 7, 7, 7, 7, 7, 7, 7, 7, 7, 7, 7, 7, 7, 7, 7, 7, 7, 7, 7, 7, 7, 7, 7, 7, 7, 7, 7, 7, 7, 7, 7, 7, 7, 7, 7, 7, 7, 8, 8, 8, 8, 8, 8, 8, 8, 8, 8, 8, 8, 8, 8, 8, 8, 8, 8, 8, 8, 8, 8, 8, 8, 8, 8, 8, 8, 8, 8, 8, 8, 8, 8, 8, 8, 8, 8, 8, 8, 8, 8, 8, 8, 8, 8, 8, 8, 8, 8, 8, 8, 8, 8, 8, 8, 8, 8, 8, 8, 8, 8, 8, 8, 8, 8, 8, 8, 8, 8, 8, 8, 8, 8, 8, 8, 8, 8, 8, 8, 8, 8, 8, 8, 8, 8, 8, 8, 8, 8, 8, 8, 8, 8, 8, 8, 8, 8, 8, 8, 8, 8, 8, 8, 8, 8, 8, 8, 8, 8, 8, 8, 8, 8, 8, 8, 8, 8, 8, 8, 8, 8, 8, 8, 8, 8, 8, 8])) (.t 21))
 (.rd (some 23) none (.conv .i64 (.t 22))
 (.rd (some 24) none (.bin .add (.t 19) (.t 23))
 (.rd (some 2) none (.mov (.t 24))
 .done)))))))
def math_bits_Len64 : AF := ⟨25, [.tmp 2],
  (.seq (.reg zq2j_0 [])
  (.seq (.seq (.reg zq2j_1 [3])
  (.cond (.t 4)
  (.seq (.reg zq2j_2 [5, 6])
  (.reg zq2j_3 []))
  .skip))
  (.seq (.seq (.reg zq2j_4 [7])
  (.cond (.t 8)
  (.seq (.reg zq2j_5 [9, 10])
  (.reg zq2j_6 [11, 12]))
  .skip))
  (.seq (.seq (.reg zq2j_7 [13])
  (.cond (.t 14)
  (.seq (.reg zq2j_8 [15, 16])
  (.reg zq2j_9 [17, 18]))
  .skip))
  (.seq (.reg zq2j_10 [19, 20, 21, 22, 23, 24])
  .ret)))))⟩
abbrev n_math_bits_Len64 : Nat := 94
/- proofmark/rv.tells -/
def zq2k_0 : AT := (.wr false (some 5) none (.box 72 (.t 0))
 (.wr false (some 10) none (.new 74 [(.bool false), (.bool false), (.bool false), (.lst 0 [] true), (.int .i64 0), (.bool false), (.int .u32 0), (.str []), (.int .u32 0)])
 .done))
def zq2k_1 : AT := (.rd (some 11) none (.load true 7 (.t 5))
 (.rd (some 12) none (.mov (.t 1))
 (.rd (some 13) none (.mov (.t 2))
 (.rd (some 14) none (.mov (.t 3))
 (.rd (some 15) none (.faddr 0 (.g 3))
 (.rd (some 16) none (.load false 1 (.t 15))
 (.rd (some 17) none (.bin .shl (.t 14) (.t 16))
 (.rd (some 18) none (.mov (.t 4))
 (.rd (some 19) none (.faddr 0 (.g 4))
 (.rd (some 20) none (.load false 1 (.t 19))
 (.rd (some 21) none (.bin .shl (.t 18) (.t 20))
 (.wr true (some 22) none (.bsl false false 43 1 [(.int .u32 0)] 3 [(0, 1, (.t 13)), (1, 1, (.t 17)), (2, 1, (.t 21))])
 (.cl true (some 23) none (.c (.fn (.func 34) [] [])) [(.t 22)]
 (.rd (some 24) none (.build [(.bool false), (.bool false), (.bool false), (.lst 0 [] true), (.int .i64 0), (.bool false), (.int .u32 0), (.str []), (.int .u32 0)] [(0, 7, (.t 11)), (7, 1, (.t 12)), (8, 1, (.t 23))])
 (.wr false none none (.store 9 (.t 10) (.t 24))
 .done)))))))))))))))
def rv_tells : AF := ⟨25, [.cell 10 true 9],
  (.seq (.reg zq2k_0 [])
  (.seq (.reg zq2k_1 [11, 12, 13, 14, 15, 16, 17, 18, 19, 20, 21, 22, 23, 24])
  .ret))⟩
abbrev n_rv_tells : Nat := 95
abbrev n_slices_Backward_rv_bits_rv_bits__S1 : Nat := 96
abbrev n_proofmarkref10_rows : Nat := 97
abbrev n_proofmarkref10_is : Nat := 98
abbrev n_proofmarkref10_number : Nat := 99
abbrev n_proofmarkref10_has : Nat := 100
abbrev n_proofmarkref10_field : Nat := 101
abbrev n_proofmarkref10_Writes : Nat := 102
abbrev n_proofmarkref10_Reads : Nat := 103
abbrev n_proofmarkref22_branch : Nat := 104
/- (*proofmark/regions.reader).op$1 -/
def zq2u_0 : AT := (.rd (some 5) none (.mov (.c (.bool false)))
 .done)
def zq2u_1 : AT := (.rd (some 6) none (.load false 1 (.t 2))
 (.rd (some 7) none (.mov (.t 0))
 (.rd (some 8) none (.bin .geq (.t 6) (.t 7))
 (.rd (some 9) none (.mov (.t 8))
 (.rd (some 10) (some (9, true)) (.load false 1 (.t 2))
 (.rd (some 11) (some (9, true)) (.mov (.t 1))
 (.rd (some 12) (some (9, true)) (.bin .leq (.t 10) (.t 11))
 (.rd (some 13) none (.pick (.t 9) (.t 12) (.c (.bool false)))
 (.rd (some 5) none (.mov (.t 13))
 .done)))))))))
def regions_reader_op_S1 : AF := ⟨14, [.tmp 5],
  (.seq (.reg zq2u_0 [])
  (.seq (.reg zq2u_1 [6, 7, 8, 9, 10, 11, 12, 13])
  .ret))⟩
abbrev n_regions_reader_op_S1 : Nat := 105
/- slices.Contains[[]uint8,uint8] -/
def zq2v_0 : AT := (.rd (some 4) none (.mov (.c (.bool false)))
 .done)
def zq2v_1 : AT := (.rd (some 5) none (.mov (.t 0))
 (.rd (some 6) none (.mov (.t 1))
 (.cl false (some 7) none (.c (.fn (.func 118) [] [])) [(.t 5), (.t 6)]
 (.rd (some 8) none (.bin .geq (.t 7) (.c (.int .i64 0)))
 (.rd (some 4) none (.mov (.t 8))
 .done)))))
def slices_Contains_uint8_uint8 : AF := ⟨9, [.tmp 4],
  (.seq (.reg zq2v_0 [])
  (.seq (.reg zq2v_1 [5, 6, 7, 8])
  .ret))⟩
abbrev n_slices_Contains_uint8_uint8 : Nat := 106
/- proofmark/rv.Reads -/
def zq2w_0 : AT := (.wr false (some 1) none (.box 47 (.t 0))
 (.rd (some 2) none (.mov (.c (.lst 0 [] true)))
 .done))
def zq2w_1 : AT := (.rd (some 7) none (.load true 5 (.t 1))
 (.cl false (some 8) none (.c (.fn (.func 12) [] [])) [(.t 7)]
 (.rd (some 6) none (.mov (.t 8))
 (.rd (some 9) none (.extr (.t 6) 0)
 (.rd (some 10) none (.extr (.t 6) 1)
 (.rd (some 3) none (.mov (.t 9))
 (.rd (some 4) none (.mov (.t 10))
 .done)))))))
def zq2w_2 : AT := (.rd (some 11) none (.mov (.t 4))
 (.rd (some 12) none (.bin .neq (.t 11) (.c (.int .i64 0)))
 .done))
def zq2w_3 : AT := (.rd (some 2) none (.mov (.c (.lst 0 [] true)))
 .done)
def zq2w_4 : AT := (.rd (some 13) none (.faddr 2 (.t 1))
 (.rd (some 14) none (.load false 1 (.t 13))
 (.rd (some 15) none (.faddr 3 (.t 1))
 (.rd (some 16) none (.load false 1 (.t 15))
 (.wr false (some 17) none (.bsl true false 5 1 [(.int .u8 0)] 2 [(0, 1, (.t 14)), (1, 1, (.t 16))])
 (.rd (some 5) none (.mov (.t 17))
 .done))))))
def zq2w_5 : AT := (.rd (some 18) none (.mov (.t 5))
 (.cl false (some 19) none (.c (.fn (.func 119) [] [])) [(.t 18)]
 .done))
def zq2w_6 : AT := (.rd (some 20) none (.mov (.t 5))
 (.cl false (some 21) none (.c (.fn (.func 120) [] [])) [(.t 20)]
 (.rd (some 5) none (.mov (.t 21))
 .done)))
def zq2w_7 : AT := (.rd (some 22) none (.mov (.t 5))
 (.cl false (some 23) none (.c (.fn (.func 121) [] [])) [(.t 22), (.c (.fn (.func 122) [] []))]
 (.rd (some 2) none (.mov (.t 23))
 .done)))
def rv_Reads : AF := ⟨24, [.tmp 2],
  (.seq (.reg zq2w_0 [])
  (.seq (.seq (.reg zq2w_1 [7, 8, 6, 9, 10, 3])
  (.seq (.reg zq2w_2 [11])
  (.cond (.t 12)
  (.seq (.reg zq2w_3 [])
  .ret)
  .skip)))
  (.seq (.reg zq2w_4 [13, 14, 15, 16, 17])
  (.seq (.reg zq2w_5 [18, 19])
  (.seq (.reg zq2w_6 [20, 21])
  (.seq (.reg zq2w_7 [22, 23])
  .ret))))))⟩
abbrev n_rv_Reads : Nat := 107
/- (*proofmark/regions.reader).target$1 -/
def zq2x_0 : AT := (.wr false (some 2) none (.box 60 (.t 0))
 (.rd (some 3) none (.mov (.c (.bool false)))
 .done))
def zq2x_1 : AT := (.rd (some 4) none (.faddr 1 (.t 2))
 (.rd (some 5) none (.load false 1 (.t 4))
 (.rd (some 6) none (.load false 1 (.t 1))
 (.rd (some 7) none (.bin .eql (.t 5) (.t 6))
 (.rd (some 3) none (.mov (.t 7))
 .done)))))
def regions_reader_target_S1 : AF := ⟨8, [.tmp 3],
  (.seq (.reg zq2x_0 [])
  (.seq (.reg zq2x_1 [4, 5, 6, 7])
  .ret))⟩
abbrev n_regions_reader_target_S1 : Nat := 108
abbrev n_slices_siftDownOrdered_int : Nat := 109
abbrev n_slices_nextPowerOfTwo : Nat := 110
abbrev n_slices_xorshift_Next : Nat := 111
abbrev n_slices_medianAdjacentOrdered_int : Nat := 112
abbrev n_slices_medianOrdered_int : Nat := 113
abbrev n_cmp_isNaN_int : Nat := 114
abbrev n_proofmarkref10_signed : Nat := 115
abbrev n_proofmarkref10_Encode : Nat := 116
abbrev n_proofmarkref10_row : Nat := 117
/- slices.Index[[]uint8,uint8] -/
def zq37_0 : AT := (.rd (some 4) none (.mov (.c (.int .i64 0)))
 .done)
def zq37_1 : AT := (.rd (some 6) none (.mov (.t 0))
 (.rd (some 7) none (.len 0 (.t 6))
 (.rd (some 8) none (.mov (.c (.int .i64 0)))
 .done)))
def zq37_2 : AT := (.rd (some 9) none (.bin .lss (.t 8) (.t 7))
 .done)
def zq37_3 : AT := (.rd (some 10) none (.mov (.t 8))
 (.rd (some 5) none (.mov (.t 10))
 .done))
def zq37_4 : AT := (.rd (some 11) none (.mov (.t 1))
 (.rd (some 12) none (.mov (.t 0))
 (.rd (some 13) none (.mov (.t 5))
 (.rd (some 14) none (.iaddr none 1 (.t 12) (.t 13))
 (.rd (some 15) none (.load false 1 (.t 14))
 (.rd (some 16) none (.bin .eql (.t 11) (.t 15))
 .done))))))
def zq37_5 : AT := (.rd (some 17) none (.mov (.t 5))
 (.rd (some 4) none (.mov (.t 17))
 .done))
def zq37_6 : AT := (.rd (some 18) none (.bin .add (.t 8) (.c (.int .i64 1)))
 (.rd (some 8) none (.mov (.t 18))
 .done))
def zq37_7 : AT := (.rd (some 4) none (.mov (.c (.int .i64 (-1))))
 .done)
def slices_Index_uint8_uint8 : AF := ⟨19, [.tmp 4],
  (.seq (.reg zq37_0 [])
  (.seq (.seq (.reg zq37_1 [6])
  (.block 0 (.loop (.seq (.reg zq37_2 [])
  (.seq (.cond (.t 9)
  .skip
  (.exit 0))
  (.seq (.block 1 (.seq (.reg zq37_3 [10])
  (.seq (.reg zq37_4 [11, 12, 13, 14, 15])
  (.cond (.t 16)
  (.seq (.reg zq37_5 [17])
  .ret)
  .skip))))
  (.reg zq37_6 [18])))))))
  (.seq (.reg zq37_7 [])
  .ret)))⟩
abbrev n_slices_Index_uint8_uint8 : Nat := 118
/- slices.Sort[[]uint8,uint8] -/
def zq38_0 : AT := (.rd (some 3) none (.mov (.t 0))
 (.rd (some 4) none (.len 0 (.t 3))
 (.rd (some 2) none (.mov (.t 4))
 .done)))
def zq38_1 : AT := (.rd (some 5) none (.mov (.t 0))
 (.rd (some 6) none (.mov (.t 2))
 (.rd (some 7) none (.mov (.t 2))
 (.rd (some 8) none (.conv .u64 (.t 7))
 (.cl false (some 9) none (.c (.fn (.func 62) [] [])) [(.t 8)]
 (.cl false (some 10) none (.c (.fn (.func 125) [] [])) [(.t 5), (.c (.int .i64 0)), (.t 6), (.t 9)]
 .done))))))
def slices_Sort_uint8_uint8 : AF := ⟨11, [],
  (.seq (.reg zq38_0 [3, 4])
  (.reg zq38_1 [5, 6, 7, 8, 9, 10]))⟩
abbrev n_slices_Sort_uint8_uint8 : Nat := 119
/- slices.Compact[[]uint8,uint8] -/
def zq39_0 : AT := (.rd (some 2) none (.mov (.c (.lst 0 [] true)))
 .done)
def zq39_1 : AT := (.rd (some 6) none (.mov (.t 0))
 (.rd (some 7) none (.len 0 (.t 6))
 (.rd (some 8) none (.bin .lss (.t 7) (.c (.int .i64 2)))
 .done)))
def zq39_2 : AT := (.rd (some 9) none (.mov (.t 0))
 (.rd (some 2) none (.mov (.t 9))
 .done))
def zq39_3 : AT := (.rd (some 3) none (.mov (.c (.int .i64 1)))
 .done)
def zq39_4 : AT := (.rd (some 10) none (.mov (.t 3))
 (.rd (some 11) none (.mov (.t 0))
 (.rd (some 12) none (.len 0 (.t 11))
 (.rd (some 13) none (.bin .lss (.t 10) (.t 12))
 .done))))
def zq39_5 : AT := (.rd (some 16) none (.mov (.t 0))
 (.rd (some 17) none (.mov (.t 3))
 (.rd (some 18) none (.iaddr none 1 (.t 16) (.t 17))
 (.rd (some 19) none (.load false 1 (.t 18))
 (.rd (some 20) none (.mov (.t 0))
 (.rd (some 21) none (.mov (.t 3))
 (.rd (some 22) none (.bin .sub (.t 21) (.c (.int .i64 1)))
 (.rd (some 23) none (.iaddr none 1 (.t 20) (.t 22))
 (.rd (some 24) none (.load false 1 (.t 23))
 (.rd (some 25) none (.bin .eql (.t 19) (.t 24))
 .done))))))))))
def zq39_6 : AT := (.rd (some 26) none (.mov (.t 0))
 (.rd (some 27) none (.mov (.t 3))
 (.rd (some 28) none (.slc 1 (.t 26) (some (.t 27)) none none)
 (.rd (some 4) none (.mov (.t 28))
 .done))))
def zq39_7 : AT := (.rd (some 5) none (.mov (.c (.int .i64 1)))
 .done)
def zq39_8 : AT := (.rd (some 29) none (.mov (.t 5))
 (.rd (some 30) none (.mov (.t 4))
 (.rd (some 31) none (.len 0 (.t 30))
 (.rd (some 32) none (.bin .lss (.t 29) (.t 31))
 .done))))
def zq39_9 : AT := (.rd (some 35) none (.mov (.t 4))
 (.rd (some 36) none (.mov (.t 5))
 (.rd (some 37) none (.iaddr none 1 (.t 35) (.t 36))
 (.rd (some 38) none (.load false 1 (.t 37))
 (.rd (some 39) none (.mov (.t 4))
 (.rd (some 40) none (.mov (.t 5))
 (.rd (some 41) none (.bin .sub (.t 40) (.c (.int .i64 1)))
 (.rd (some 42) none (.iaddr none 1 (.t 39) (.t 41))
 (.rd (some 43) none (.load false 1 (.t 42))
 (.rd (some 44) none (.bin .neq (.t 38) (.t 43))
 .done))))))))))
def zq39_10 : AT := (.rd (some 45) none (.mov (.t 0))
 (.rd (some 46) none (.mov (.t 3))
 (.rd (some 47) none (.mov (.t 4))
 (.rd (some 48) none (.mov (.t 5))
 (.rd (some 49) none (.iaddr none 1 (.t 47) (.t 48))
 (.rd (some 50) none (.load false 1 (.t 49))
 (.rd (some 51) none (.iaddr none 1 (.t 45) (.t 46))
 (.wr false none none (.store 1 (.t 51) (.t 50))
 .done))))))))
def zq39_11 : AT := (.rd (some 52) none (.mov (.t 3))
 (.rd (some 53) none (.bin .add (.t 52) (.c (.int .i64 1)))
 (.rd (some 3) none (.mov (.t 53))
 .done)))
def zq39_12 : AT := (.rd (some 33) none (.mov (.t 5))
 (.rd (some 34) none (.bin .add (.t 33) (.c (.int .i64 1)))
 (.rd (some 5) none (.mov (.t 34))
 .done)))
def zq39_13 : AT := (.rd (some 54) none (.mov (.t 0))
 (.rd (some 55) none (.mov (.t 3))
 (.rd (some 56) none (.slc 1 (.t 54) (some (.t 55)) none none)
 (.wr false none none (.clr 1 [(.int .u8 0)] (.t 56))
 .done))))
def zq39_14 : AT := (.rd (some 57) none (.mov (.t 0))
 (.rd (some 58) none (.mov (.t 3))
 (.rd (some 59) none (.slc 1 (.t 57) none (some (.t 58)) none)
 (.rd (some 2) none (.mov (.t 59))
 .done))))
def zq39_15 : AT := (.rd (some 14) none (.mov (.t 3))
 (.rd (some 15) none (.bin .add (.t 14) (.c (.int .i64 1)))
 (.rd (some 3) none (.mov (.t 15))
 .done)))
def zq39_16 : AT := (.rd (some 60) none (.mov (.t 0))
 (.rd (some 2) none (.mov (.t 60))
 .done))
def slices_Compact_uint8_uint8 : AF := ⟨61, [.tmp 2],
  (.seq (.reg zq39_0 [])
  (.seq (.seq (.reg zq39_1 [6, 7])
  (.cond (.t 8)
  (.seq (.reg zq39_2 [9])
  .ret)
  .skip))
  (.seq (.seq (.reg zq39_3 [])
  (.block 0 (.loop (.seq (.seq (.reg zq39_4 [10, 11, 12])
  (.cond (.t 13)
  .skip
  (.exit 0)))
  (.seq (.block 1 (.seq (.reg zq39_5 [16, 17, 18, 19, 20, 21, 22, 23, 24])
  (.cond (.t 25)
  (.seq (.reg zq39_6 [26, 27, 28])
  (.seq (.seq (.reg zq39_7 [])
  (.block 2 (.loop (.seq (.seq (.reg zq39_8 [29, 30, 31])
  (.cond (.t 32)
  .skip
  (.exit 2)))
  (.seq (.block 3 (.seq (.reg zq39_9 [35, 36, 37, 38, 39, 40, 41, 42, 43])
  (.cond (.t 44)
  (.seq (.reg zq39_10 [45, 46, 47, 48, 49, 50, 51])
  (.reg zq39_11 [52, 53]))
  .skip)))
  (.reg zq39_12 [33, 34]))))))
  (.seq (.reg zq39_13 [54, 55, 56])
  (.seq (.reg zq39_14 [57, 58, 59])
  .ret))))
  .skip)))
  (.reg zq39_15 [14, 15]))))))
  (.seq (.reg zq39_16 [60])
  .ret))))⟩
abbrev n_slices_Compact_uint8_uint8 : Nat := 120
/- slices.DeleteFunc[[]uint8,uint8] -/
def zq3a_0 : AT := (.rd (some 4) none (.mov (.c (.lst 0 [] true)))
 .done)
def zq3a_1 : AT := (.rd (some 8) none (.mov (.t 0))
 (.rd (some 9) none (.mov (.t 1))
 (.cl false (some 10) none (.c (.fn (.func 126) [] [])) [(.t 8), (.t 9)]
 (.rd (some 5) none (.mov (.t 10))
 .done))))
def zq3a_2 : AT := (.rd (some 11) none (.mov (.t 5))
 (.rd (some 12) none (.bin .eql (.t 11) (.c (.int .i64 (-1))))
 .done))
def zq3a_3 : AT := (.rd (some 13) none (.mov (.t 0))
 (.rd (some 4) none (.mov (.t 13))
 .done))
def zq3a_4 : AT := (.rd (some 14) none (.mov (.t 5))
 (.rd (some 15) none (.bin .add (.t 14) (.c (.int .i64 1)))
 (.rd (some 6) none (.mov (.t 15))
 .done)))
def zq3a_5 : AT := (.rd (some 16) none (.mov (.t 6))
 (.rd (some 17) none (.mov (.t 0))
 (.rd (some 18) none (.len 0 (.t 17))
 (.rd (some 19) none (.bin .lss (.t 16) (.t 18))
 .done))))
def zq3a_6 : AT := (.rd (some 22) none (.mov (.t 0))
 (.rd (some 23) none (.mov (.t 6))
 (.rd (some 24) none (.iaddr none 1 (.t 22) (.t 23))
 (.rd (some 25) none (.load false 1 (.t 24))
 (.rd (some 7) none (.mov (.t 25))
 .done)))))
def zq3a_7 : AT := (.rd (some 26) none (.mov (.t 1))
 (.rd (some 27) none (.mov (.t 7))
 (.cl false (some 28) none (.t 26) [(.t 27)]
 (.rd (some 29) none (.un .not (.t 28))
 .done))))
def zq3a_8 : AT := (.rd (some 30) none (.mov (.t 0))
 (.rd (some 31) none (.mov (.t 5))
 (.rd (some 32) none (.mov (.t 7))
 (.rd (some 33) none (.iaddr none 1 (.t 30) (.t 31))
 (.wr false none none (.store 1 (.t 33) (.t 32))
 .done)))))
def zq3a_9 : AT := (.rd (some 34) none (.mov (.t 5))
 (.rd (some 35) none (.bin .add (.t 34) (.c (.int .i64 1)))
 (.rd (some 5) none (.mov (.t 35))
 .done)))
def zq3a_10 : AT := (.rd (some 20) none (.mov (.t 6))
 (.rd (some 21) none (.bin .add (.t 20) (.c (.int .i64 1)))
 (.rd (some 6) none (.mov (.t 21))
 .done)))
def zq3a_11 : AT := (.rd (some 36) none (.mov (.t 0))
 (.rd (some 37) none (.mov (.t 5))
 (.rd (some 38) none (.slc 1 (.t 36) (some (.t 37)) none none)
 (.wr false none none (.clr 1 [(.int .u8 0)] (.t 38))
 .done))))
def zq3a_12 : AT := (.rd (some 39) none (.mov (.t 0))
 (.rd (some 40) none (.mov (.t 5))
 (.rd (some 41) none (.slc 1 (.t 39) none (some (.t 40)) none)
 (.rd (some 4) none (.mov (.t 41))
 .done))))
def slices_DeleteFunc_uint8_uint8 : AF := ⟨42, [.tmp 4],
  (.seq (.reg zq3a_0 [])
  (.seq (.reg zq3a_1 [8, 9, 10])
  (.seq (.seq (.reg zq3a_2 [11])
  (.cond (.t 12)
  (.seq (.reg zq3a_3 [13])
  .ret)
  .skip))
  (.seq (.seq (.reg zq3a_4 [14, 15])
  (.block 0 (.loop (.seq (.seq (.reg zq3a_5 [16, 17, 18])
  (.cond (.t 19)
  .skip
  (.exit 0)))
  (.seq (.block 1 (.seq (.reg zq3a_6 [22, 23, 24, 25])
  (.seq (.reg zq3a_7 [26, 27, 28])
  (.cond (.t 29)
  (.seq (.reg zq3a_8 [30, 31, 32, 33])
  (.reg zq3a_9 [34, 35]))
  .skip))))
  (.reg zq3a_10 [20, 21]))))))
  (.seq (.reg zq3a_11 [36, 37, 38])
  (.seq (.reg zq3a_12 [39, 40, 41])
  .ret))))))⟩
abbrev n_slices_DeleteFunc_uint8_uint8 : Nat := 121
/- proofmark/rv.Reads$1 -/
def zq3b_0 : AT := (.rd (some 2) none (.mov (.c (.bool false)))
 .done)
def zq3b_1 : AT := (.rd (some 3) none (.mov (.t 0))
 (.rd (some 4) none (.bin .eql (.t 3) (.c (.int .u8 0)))
 (.rd (some 2) none (.mov (.t 4))
 .done)))
def rv_Reads_S1 : AF := ⟨5, [.tmp 2],
  (.seq (.reg zq3b_0 [])
  (.seq (.reg zq3b_1 [3, 4])
  .ret))⟩
abbrev n_rv_Reads_S1 : Nat := 122
abbrev n_slices_order2Ordered_int : Nat := 123
abbrev n_proofmarkref10_room : Nat := 124
/- slices.pdqsortOrdered[uint8] -/
def zq3e_0 : AT := (.rd (some 8) none (.mov (.c (.bool true)))
 .done)
def zq3e_1 : AT := (.rd (some 9) none (.mov (.c (.bool true)))
 .done)
def zq3e_2 : AT := (.rd (some 19) none (.mov (.t 2))
 (.rd (some 20) none (.mov (.t 1))
 (.rd (some 21) none (.bin .sub (.t 19) (.t 20))
 (.rd (some 10) none (.mov (.t 21))
 .done))))
def zq3e_3 : AT := (.rd (some 22) none (.mov (.t 10))
 (.rd (some 23) none (.bin .leq (.t 22) (.c (.int .i64 12)))
 .done))
def zq3e_4 : AT := (.rd (some 24) none (.mov (.t 0))
 (.rd (some 25) none (.mov (.t 1))
 (.rd (some 26) none (.mov (.t 2))
 (.cl false (some 27) none (.c (.fn (.func 127) [] [])) [(.t 24), (.t 25), (.t 26)]
 .done))))
def zq3e_5 : AT := (.rd (some 28) none (.mov (.t 3))
 (.rd (some 29) none (.bin .eql (.t 28) (.c (.int .i64 0)))
 .done))
def zq3e_6 : AT := (.rd (some 30) none (.mov (.t 0))
 (.rd (some 31) none (.mov (.t 1))
 (.rd (some 32) none (.mov (.t 2))
 (.cl false (some 33) none (.c (.fn (.func 128) [] [])) [(.t 30), (.t 31), (.t 32)]
 .done))))
def zq3e_7 : AT := (.rd (some 34) none (.mov (.t 8))
 (.rd (some 35) none (.un .not (.t 34))
 .done))
def zq3e_8 : AT := (.rd (some 36) none (.mov (.t 0))
 (.rd (some 37) none (.mov (.t 1))
 (.rd (some 38) none (.mov (.t 2))
 (.cl false (some 39) none (.c (.fn (.func 129) [] [])) [(.t 36), (.t 37), (.t 38)]
 .done))))
def zq3e_9 : AT := (.rd (some 40) none (.mov (.t 3))
 (.rd (some 41) none (.bin .sub (.t 40) (.c (.int .i64 1)))
 (.rd (some 3) none (.mov (.t 41))
 .done)))
def zq3e_10 : AT := (.rd (some 43) none (.mov (.t 0))
 (.rd (some 44) none (.mov (.t 1))
 (.rd (some 45) none (.mov (.t 2))
 (.cl false (some 46) none (.c (.fn (.func 130) [] [])) [(.t 43), (.t 44), (.t 45)]
 (.rd (some 42) none (.mov (.t 46))
 (.rd (some 47) none (.extr (.t 42) 0)
 (.rd (some 48) none (.extr (.t 42) 1)
 (.rd (some 11) none (.mov (.t 47))
 (.rd (some 12) none (.mov (.t 48))
 .done)))))))))
def zq3e_11 : AT := (.rd (some 49) none (.mov (.t 12))
 (.rd (some 50) none (.bin .eql (.t 49) (.c (.int .i64 2)))
 .done))
def zq3e_12 : AT := (.rd (some 51) none (.mov (.t 0))
 (.rd (some 52) none (.mov (.t 1))
 (.rd (some 53) none (.mov (.t 2))
 (.cl false (some 54) none (.c (.fn (.func 131) [] [])) [(.t 51), (.t 52), (.t 53)]
 .done))))
def zq3e_13 : AT := (.rd (some 55) none (.mov (.t 2))
 (.rd (some 56) none (.bin .sub (.t 55) (.c (.int .i64 1)))
 (.rd (some 57) none (.mov (.t 11))
 (.rd (some 58) none (.mov (.t 1))
 (.rd (some 59) none (.bin .sub (.t 57) (.t 58))
 (.rd (some 60) none (.bin .sub (.t 56) (.t 59))
 (.rd (some 11) none (.mov (.t 60))
 .done)))))))
def zq3e_14 : AT := (.rd (some 12) none (.mov (.c (.int .i64 1)))
 .done)
def zq3e_15 : AT := (.rd (some 61) none (.mov (.t 8))
 (.rd (some 62) none (.mov (.t 61))
 (.rd (some 63) (some (62, true)) (.mov (.t 9))
 (.rd (some 64) none (.pick (.t 62) (.t 63) (.c (.bool false)))
 (.rd (some 65) none (.mov (.t 64))
 (.rd (some 66) (some (65, true)) (.mov (.t 12))
 (.rd (some 67) (some (65, true)) (.bin .eql (.t 66) (.c (.int .i64 1)))
 (.rd (some 68) none (.pick (.t 65) (.t 67) (.c (.bool false)))
 .done))))))))
def zq3e_16 : AT := (.rd (some 69) none (.mov (.t 0))
 (.rd (some 70) none (.mov (.t 1))
 (.rd (some 71) none (.mov (.t 2))
 (.cl false (some 72) none (.c (.fn (.func 132) [] [])) [(.t 69), (.t 70), (.t 71)]
 .done))))
def zq3e_17 : AT := (.rd (some 73) none (.mov (.t 1))
 (.rd (some 74) none (.bin .gtr (.t 73) (.c (.int .i64 0)))
 (.rd (some 75) none (.mov (.t 74))
 (.rd (some 76) (some (75, true)) (.mov (.t 0))
 (.rd (some 77) (some (75, true)) (.mov (.t 1))
 (.rd (some 78) (some (75, true)) (.bin .sub (.t 77) (.c (.int .i64 1)))
 (.rd (some 79) (some (75, true)) (.iaddr none 1 (.t 76) (.t 78))
 (.rd (some 80) (some (75, true)) (.load false 1 (.t 79))
 (.rd (some 81) (some (75, true)) (.mov (.t 0))
 (.rd (some 82) (some (75, true)) (.mov (.t 11))
 (.rd (some 83) (some (75, true)) (.iaddr none 1 (.t 81) (.t 82))
 (.rd (some 84) (some (75, true)) (.load false 1 (.t 83))
 (.cl false (some 85) (some (75, true)) (.c (.fn (.func 133) [] [])) [(.t 80), (.t 84)]
 (.rd (some 86) (some (75, true)) (.un .not (.t 85))
 (.rd (some 87) none (.pick (.t 75) (.t 86) (.c (.bool false)))
 .done)))))))))))))))
def zq3e_18 : AT := (.rd (some 88) none (.mov (.t 0))
 (.rd (some 89) none (.mov (.t 1))
 (.rd (some 90) none (.mov (.t 2))
 (.rd (some 91) none (.mov (.t 11))
 (.cl false (some 92) none (.c (.fn (.func 134) [] [])) [(.t 88), (.t 89), (.t 90), (.t 91)]
 (.rd (some 13) none (.mov (.t 92))
 .done))))))
def zq3e_19 : AT := (.rd (some 93) none (.mov (.t 13))
 (.rd (some 1) none (.mov (.t 93))
 .done))
def zq3e_20 : AT := (.rd (some 95) none (.mov (.t 0))
 (.rd (some 96) none (.mov (.t 1))
 (.rd (some 97) none (.mov (.t 2))
 (.rd (some 98) none (.mov (.t 11))
 (.cl false (some 99) none (.c (.fn (.func 135) [] [])) [(.t 95), (.t 96), (.t 97), (.t 98)]
 (.rd (some 94) none (.mov (.t 99))
 (.rd (some 100) none (.extr (.t 94) 0)
 (.rd (some 101) none (.extr (.t 94) 1)
 (.rd (some 14) none (.mov (.t 100))
 (.rd (some 15) none (.mov (.t 101))
 .done))))))))))
def zq3e_21 : AT := (.rd (some 102) none (.mov (.t 15))
 (.rd (some 9) none (.mov (.t 102))
 .done))
def zq3e_22 : AT := (.rd (some 103) none (.mov (.t 14))
 (.rd (some 104) none (.mov (.t 1))
 (.rd (some 105) none (.bin .sub (.t 103) (.t 104))
 (.rd (some 106) none (.mov (.t 2))
 (.rd (some 107) none (.mov (.t 14))
 (.rd (some 108) none (.bin .sub (.t 106) (.t 107))
 (.rd (some 16) none (.mov (.t 105))
 (.rd (some 17) none (.mov (.t 108))
 .done))))))))
def zq3e_23 : AT := (.rd (some 109) none (.mov (.t 10))
 (.rd (some 110) none (.bin .quo (.t 109) (.c (.int .i64 8)))
 (.rd (some 18) none (.mov (.t 110))
 .done)))
def zq3e_24 : AT := (.rd (some 111) none (.mov (.t 16))
 (.rd (some 112) none (.mov (.t 17))
 (.rd (some 113) none (.bin .lss (.t 111) (.t 112))
 .done)))
def zq3e_25 : AT := (.rd (some 114) none (.mov (.t 16))
 (.rd (some 115) none (.mov (.t 18))
 (.rd (some 116) none (.bin .geq (.t 114) (.t 115))
 (.rd (some 8) none (.mov (.t 116))
 .done))))
def zq3e_26 : AT := (.rd (some 117) none (.mov (.t 0))
 (.rd (some 118) none (.mov (.t 1))
 (.rd (some 119) none (.mov (.t 14))
 (.rd (some 120) none (.mov (.t 3))
 (.cl false (some 121) none (.c (.fn (.func 125) [] [])) [(.t 117), (.t 118), (.t 119), (.t 120)]
 .done)))))
def zq3e_27 : AT := (.rd (some 122) none (.mov (.t 14))
 (.rd (some 123) none (.bin .add (.t 122) (.c (.int .i64 1)))
 (.rd (some 1) none (.mov (.t 123))
 .done)))
def zq3e_28 : AT := (.rd (some 124) none (.mov (.t 17))
 (.rd (some 125) none (.mov (.t 18))
 (.rd (some 126) none (.bin .geq (.t 124) (.t 125))
 (.rd (some 8) none (.mov (.t 126))
 .done))))
def zq3e_29 : AT := (.rd (some 127) none (.mov (.t 0))
 (.rd (some 128) none (.mov (.t 14))
 (.rd (some 129) none (.bin .add (.t 128) (.c (.int .i64 1)))
 (.rd (some 130) none (.mov (.t 2))
 (.rd (some 131) none (.mov (.t 3))
 (.cl false (some 132) none (.c (.fn (.func 125) [] [])) [(.t 127), (.t 129), (.t 130), (.t 131)]
 .done))))))
def zq3e_30 : AT := (.rd (some 133) none (.mov (.t 14))
 (.rd (some 2) none (.mov (.t 133))
 .done))
def slices_pdqsortOrdered_uint8 : AF := ⟨134, [],
  (.seq (.reg zq3e_0 [])
  (.seq (.reg zq3e_1 [])
  (.block 0 (.loop (.block 1 (.seq (.reg zq3e_2 [19, 20, 21])
  (.seq (.seq (.reg zq3e_3 [22])
  (.cond (.t 23)
  (.seq (.reg zq3e_4 [24, 25, 26, 27])
  .ret)
  .skip))
  (.seq (.seq (.reg zq3e_5 [28])
  (.cond (.t 29)
  (.seq (.reg zq3e_6 [30, 31, 32, 33])
  .ret)
  .skip))
  (.seq (.seq (.reg zq3e_7 [34])
  (.cond (.t 35)
  (.seq (.reg zq3e_8 [36, 37, 38, 39])
  (.reg zq3e_9 [40, 41]))
  .skip))
  (.seq (.reg zq3e_10 [43, 44, 45, 46, 42, 47, 48])
  (.seq (.seq (.reg zq3e_11 [49])
  (.cond (.t 50)
  (.seq (.reg zq3e_12 [51, 52, 53, 54])
  (.seq (.reg zq3e_13 [55, 56, 57, 58, 59, 60])
  (.reg zq3e_14 [])))
  .skip))
  (.seq (.seq (.reg zq3e_15 [61, 62, 63, 64, 65, 66, 67])
  (.cond (.t 68)
  (.seq (.reg zq3e_16 [69, 70, 71])
  (.cond (.t 72)
  .ret
  .skip))
  .skip))
  (.seq (.seq (.reg zq3e_17 [73, 74, 75, 76, 77, 78, 79, 80, 81, 82, 83, 84, 85, 86])
  (.cond (.t 87)
  (.seq (.reg zq3e_18 [88, 89, 90, 91, 92])
  (.seq (.reg zq3e_19 [93])
  (.exit 1)))
  .skip))
  (.seq (.reg zq3e_20 [95, 96, 97, 98, 99, 94, 100, 101])
  (.seq (.reg zq3e_21 [102])
  (.seq (.reg zq3e_22 [103, 104, 105, 106, 107, 108])
  (.seq (.reg zq3e_23 [109, 110])
  (.seq (.reg zq3e_24 [111, 112])
  (.cond (.t 113)
  (.seq (.reg zq3e_25 [114, 115, 116])
  (.seq (.reg zq3e_26 [117, 118, 119, 120, 121])
  (.reg zq3e_27 [122, 123])))
  (.seq (.reg zq3e_28 [124, 125, 126])
  (.seq (.reg zq3e_29 [127, 128, 129, 130, 131, 132])
  (.reg zq3e_30 [133]))))))))))))))))))))))⟩
abbrev n_slices_pdqsortOrdered_uint8 : Nat := 125
/- slices.IndexFunc[[]uint8,uint8] -/
def zq3f_0 : AT := (.rd (some 4) none (.mov (.c (.int .i64 0)))
 .done)
def zq3f_1 : AT := (.rd (some 6) none (.mov (.t 0))
 (.rd (some 7) none (.len 0 (.t 6))
 (.rd (some 8) none (.mov (.c (.int .i64 0)))
 .done)))
def zq3f_2 : AT := (.rd (some 9) none (.bin .lss (.t 8) (.t 7))
 .done)
def zq3f_3 : AT := (.rd (some 10) none (.mov (.t 8))
 (.rd (some 5) none (.mov (.t 10))
 .done))
def zq3f_4 : AT := (.rd (some 11) none (.mov (.t 1))
 (.rd (some 12) none (.mov (.t 0))
 (.rd (some 13) none (.mov (.t 5))
 (.rd (some 14) none (.iaddr none 1 (.t 12) (.t 13))
 (.rd (some 15) none (.load false 1 (.t 14))
 (.cl false (some 16) none (.t 11) [(.t 15)]
 .done))))))
def zq3f_5 : AT := (.rd (some 17) none (.mov (.t 5))
 (.rd (some 4) none (.mov (.t 17))
 .done))
def zq3f_6 : AT := (.rd (some 18) none (.bin .add (.t 8) (.c (.int .i64 1)))
 (.rd (some 8) none (.mov (.t 18))
 .done))
def zq3f_7 : AT := (.rd (some 4) none (.mov (.c (.int .i64 (-1))))
 .done)
def slices_IndexFunc_uint8_uint8 : AF := ⟨19, [.tmp 4],
  (.seq (.reg zq3f_0 [])
  (.seq (.seq (.reg zq3f_1 [6])
  (.block 0 (.loop (.seq (.reg zq3f_2 [])
  (.seq (.cond (.t 9)
  .skip
  (.exit 0))
  (.seq (.block 1 (.seq (.reg zq3f_3 [10])
  (.seq (.reg zq3f_4 [11, 12, 13, 14, 15])
  (.cond (.t 16)
  (.seq (.reg zq3f_5 [17])
  .ret)
  .skip))))
  (.reg zq3f_6 [18])))))))
  (.seq (.reg zq3f_7 [])
  .ret)))⟩
abbrev n_slices_IndexFunc_uint8_uint8 : Nat := 126
/- slices.insertionSortOrdered[uint8] -/
def zq3g_0 : AT := (.rd (some 8) none (.mov (.t 1))
 (.rd (some 9) none (.bin .add (.t 8) (.c (.int .i64 1)))
 (.rd (some 6) none (.mov (.t 9))
 .done)))
def zq3g_1 : AT := (.rd (some 10) none (.mov (.t 6))
 (.rd (some 11) none (.mov (.t 2))
 (.rd (some 12) none (.bin .lss (.t 10) (.t 11))
 .done)))
def zq3g_2 : AT := (.rd (some 15) none (.mov (.t 6))
 (.rd (some 7) none (.mov (.t 15))
 .done))
def zq3g_3 : AT := (.rd (some 16) none (.mov (.t 7))
 (.rd (some 17) none (.mov (.t 1))
 (.rd (some 18) none (.bin .gtr (.t 16) (.t 17))
 (.rd (some 19) none (.mov (.t 18))
 (.rd (some 20) (some (19, true)) (.mov (.t 0))
 (.rd (some 21) (some (19, true)) (.mov (.t 7))
 (.rd (some 22) (some (19, true)) (.iaddr none 1 (.t 20) (.t 21))
 (.rd (some 23) (some (19, true)) (.load false 1 (.t 22))
 (.rd (some 24) (some (19, true)) (.mov (.t 0))
 (.rd (some 25) (some (19, true)) (.mov (.t 7))
 (.rd (some 26) (some (19, true)) (.bin .sub (.t 25) (.c (.int .i64 1)))
 (.rd (some 27) (some (19, true)) (.iaddr none 1 (.t 24) (.t 26))
 (.rd (some 28) (some (19, true)) (.load false 1 (.t 27))
 (.cl false (some 29) (some (19, true)) (.c (.fn (.func 133) [] [])) [(.t 23), (.t 28)]
 (.rd (some 30) none (.pick (.t 19) (.t 29) (.c (.bool false)))
 .done)))))))))))))))
def zq3g_4 : AT := (.rd (some 33) none (.mov (.t 0))
 (.rd (some 34) none (.mov (.t 7))
 (.rd (some 35) none (.mov (.t 0))
 (.rd (some 36) none (.mov (.t 7))
 (.rd (some 37) none (.bin .sub (.t 36) (.c (.int .i64 1)))
 (.rd (some 38) none (.mov (.t 0))
 (.rd (some 39) none (.mov (.t 7))
 (.rd (some 40) none (.bin .sub (.t 39) (.c (.int .i64 1)))
 (.rd (some 41) none (.iaddr none 1 (.t 38) (.t 40))
 (.rd (some 42) none (.load false 1 (.t 41))
 (.rd (some 43) none (.mov (.t 0))
 (.rd (some 44) none (.mov (.t 7))
 (.rd (some 45) none (.iaddr none 1 (.t 43) (.t 44))
 (.rd (some 46) none (.load false 1 (.t 45))
 (.rd (some 47) none (.iaddr none 1 (.t 33) (.t 34))
 (.wr false none none (.store 1 (.t 47) (.t 42))
 (.rd (some 48) none (.iaddr none 1 (.t 35) (.t 37))
 (.wr false none none (.store 1 (.t 48) (.t 46))
 .done))))))))))))))))))
def zq3g_5 : AT := (.rd (some 31) none (.mov (.t 7))
 (.rd (some 32) none (.bin .sub (.t 31) (.c (.int .i64 1)))
 (.rd (some 7) none (.mov (.t 32))
 .done)))
def zq3g_6 : AT := (.rd (some 13) none (.mov (.t 6))
 (.rd (some 14) none (.bin .add (.t 13) (.c (.int .i64 1)))
 (.rd (some 6) none (.mov (.t 14))
 .done)))
def slices_insertionSortOrdered_uint8 : AF := ⟨49, [],
  (.seq (.reg zq3g_0 [8, 9])
  (.block 0 (.loop (.seq (.seq (.reg zq3g_1 [10, 11])
  (.cond (.t 12)
  .skip
  (.exit 0)))
  (.seq (.block 1 (.seq (.reg zq3g_2 [15])
  (.block 2 (.loop (.seq (.seq (.reg zq3g_3 [16, 17, 18, 19, 20, 21, 22, 23, 24, 25, 26, 27, 28, 29])
  (.cond (.t 30)
  .skip
  (.exit 2)))
  (.seq (.block 3 (.reg zq3g_4 [33, 34, 35, 36, 37, 38, 39, 40, 41, 42, 43, 44, 45, 46, 47, 48]))
  (.reg zq3g_5 [31, 32])))))))
  (.reg zq3g_6 [13, 14]))))))⟩
abbrev n_slices_insertionSortOrdered_uint8 : Nat := 127
abbrev n_slices_heapSortOrdered_uint8 : Nat := 128
abbrev n_slices_breakPatternsOrdered_uint8 : Nat := 129
abbrev n_slices_choosePivotOrdered_uint8 : Nat := 130
abbrev n_slices_reverseRangeOrdered_uint8 : Nat := 131
abbrev n_slices_partialInsertionSortOrdered_uint8 : Nat := 132
/- cmp.Less[uint8] -/
def zq3m_0 : AT := (.rd (some 4) none (.mov (.c (.bool false)))
 .done)
def zq3m_1 : AT := (.rd (some 5) none (.mov (.t 0))
 (.cl false (some 6) none (.c (.fn (.func 139) [] [])) [(.t 5)]
 (.rd (some 7) none (.mov (.t 6))
 (.rd (some 8) (some (7, true)) (.mov (.t 1))
 (.cl false (some 9) (some (7, true)) (.c (.fn (.func 139) [] [])) [(.t 8)]
 (.rd (some 10) (some (7, true)) (.un .not (.t 9))
 (.rd (some 11) none (.pick (.t 7) (.t 10) (.c (.bool false)))
 (.rd (some 12) none (.mov (.t 11))
 (.rd (some 13) (some (12, false)) (.mov (.t 0))
 (.rd (some 14) (some (12, false)) (.mov (.t 1))
 (.rd (some 15) (some (12, false)) (.bin .lss (.t 13) (.t 14))
 (.rd (some 16) none (.pick (.t 12) (.c (.bool true)) (.t 15))
 (.rd (some 4) none (.mov (.t 16))
 .done)))))))))))))
def cmp_Less_uint8 : AF := ⟨17, [.tmp 4],
  (.seq (.reg zq3m_0 [])
  (.seq (.reg zq3m_1 [5, 6, 7, 8, 9, 10, 11, 12, 13, 14, 15, 16])
  .ret))⟩
abbrev n_cmp_Less_uint8 : Nat := 133
abbrev n_slices_partitionEqualOrdered_uint8 : Nat := 134
abbrev n_slices_partitionOrdered_uint8 : Nat := 135
abbrev n_slices_siftDownOrdered_uint8 : Nat := 136
abbrev n_slices_medianAdjacentOrdered_uint8 : Nat := 137
abbrev n_slices_medianOrdered_uint8 : Nat := 138
/- cmp.isNaN[uint8] -/
def zq3s_0 : AT := (.rd (some 2) none (.mov (.c (.bool false)))
 .done)
def zq3s_1 : AT := (.rd (some 3) none (.mov (.t 0))
 (.rd (some 4) none (.mov (.t 0))
 (.rd (some 5) none (.bin .neq (.t 3) (.t 4))
 (.rd (some 2) none (.mov (.t 5))
 .done))))
def cmp_isNaN_uint8 : AF := ⟨6, [.tmp 2],
  (.seq (.reg zq3s_0 [])
  (.seq (.reg zq3s_1 [3, 4, 5])
  .ret))⟩
abbrev n_cmp_isNaN_uint8 : Nat := 139
abbrev n_slices_order2Ordered_uint8 : Nat := 140
abbrev n_gosem_cut_vars : Nat := 165
def tab : Nat → Option AF
  | 4 => some proofmarklaw22_RegionsMoved
  | 7 => some proofmarklaw22_works
  | 8 => some regions_Of
  | 10 => some regions_Func_Next
  | 12 => some rv_Encode
  | 13 => some proofmarkkit_Image
  | 14 => some proofmarkkit_SameInts
  | 15 => some regions_Func_Return
  | 16 => some regions_Func_Ends
  | 18 => some proofmarklaw22_addi
  | 20 => some proofmarklaw22_back
  | 21 => some proofmarklaw22_of
  | 22 => some image_Right
  | 23 => some regions_read
  | 24 => some regions_jumps
  | 25 => some regions_branches
  | 26 => some slices_Sort_int_int
  | 27 => some slices_DeleteFunc_int_int
  | 28 => some slices_Compact_int_int
  | 29 => some regions_Func_Next_S1
  | 30 => some rv_Writes
  | 31 => some rv_of
  | 32 => some rv_Encode_S1
  | 33 => some rv_form_fits
  | 34 => some rv_together
  | 35 => some rv_form_spread
  | 36 => some regions_Func_is
  | 37 => some regions_Func_restores
  | 48 => some image_Right_S1
  | 49 => some image_Right_S2
  | 50 => some image_Right_S3
  | 51 => some image_Right_S4
  | 52 => some image_Right_S5
  | 53 => some slices_ContainsFunc_image_Sym_image_Sym
  | 54 => some slices_ContainsFunc_func_bool_func_bool
  | 55 => some image_Right_S6
  | 56 => some image_Bounds
  | 57 => some rv_Decode
  | 58 => some regions_frame
  | 59 => some regions_reader_fault
  | 60 => some regions_Func_cuts
  | 62 => some math_bits_Len
  | 63 => some slices_IndexFunc_int_int
  | 64 => some rv_table
  | 65 => some rv_form_width
  | 74 => some slices_IndexFunc_image_Sym_image_Sym
  | 75 => some slices_IndexFunc_func_bool_func_bool
  | 76 => some slices_IndexFunc_rv_row_rv_row
  | 77 => some rv_Decode_S1
  | 78 => some rv_form_number
  | 79 => some rv_bits_of
  | 80 => some regions_reader_op
  | 81 => some regions_reader_stack
  | 82 => some regions_reader_target
  | 83 => some regions_reader_back
  | 93 => some math_bits_Len32
  | 94 => some math_bits_Len64
  | 95 => some rv_tells
  | 105 => some regions_reader_op_S1
  | 106 => some slices_Contains_uint8_uint8
  | 107 => some rv_Reads
  | 108 => some regions_reader_target_S1
  | 118 => some slices_Index_uint8_uint8
  | 119 => some slices_Sort_uint8_uint8
  | 120 => some slices_Compact_uint8_uint8
  | 121 => some slices_DeleteFunc_uint8_uint8
  | 122 => some rv_Reads_S1
  | 125 => some slices_pdqsortOrdered_uint8
  | 126 => some slices_IndexFunc_uint8_uint8
  | 127 => some slices_insertionSortOrdered_uint8
  | 133 => some cmp_Less_uint8
  | 139 => some cmp_isNaN_uint8
  | _ => none
theorem t_proofmarklaw22_RegionsMoved : tab n_proofmarklaw22_RegionsMoved = some proofmarklaw22_RegionsMoved := rfl
theorem t_proofmarklaw22_works : tab n_proofmarklaw22_works = some proofmarklaw22_works := rfl
theorem t_regions_Of : tab n_regions_Of = some regions_Of := rfl
theorem t_regions_Func_Next : tab n_regions_Func_Next = some regions_Func_Next := rfl
theorem t_rv_Encode : tab n_rv_Encode = some rv_Encode := rfl
theorem t_proofmarkkit_Image : tab n_proofmarkkit_Image = some proofmarkkit_Image := rfl
theorem t_proofmarkkit_SameInts : tab n_proofmarkkit_SameInts = some proofmarkkit_SameInts := rfl
theorem t_regions_Func_Return : tab n_regions_Func_Return = some regions_Func_Return := rfl
theorem t_regions_Func_Ends : tab n_regions_Func_Ends = some regions_Func_Ends := rfl
theorem t_proofmarklaw22_addi : tab n_proofmarklaw22_addi = some proofmarklaw22_addi := rfl
theorem t_proofmarklaw22_back : tab n_proofmarklaw22_back = some proofmarklaw22_back := rfl
theorem t_proofmarklaw22_of : tab n_proofmarklaw22_of = some proofmarklaw22_of := rfl
theorem t_image_Right : tab n_image_Right = some image_Right := rfl
theorem t_regions_read : tab n_regions_read = some regions_read := rfl
theorem t_regions_jumps : tab n_regions_jumps = some regions_jumps := rfl
theorem t_regions_branches : tab n_regions_branches = some regions_branches := rfl
theorem t_slices_Sort_int_int : tab n_slices_Sort_int_int = some slices_Sort_int_int := rfl
theorem t_slices_DeleteFunc_int_int : tab n_slices_DeleteFunc_int_int = some slices_DeleteFunc_int_int := rfl
theorem t_slices_Compact_int_int : tab n_slices_Compact_int_int = some slices_Compact_int_int := rfl
theorem t_regions_Func_Next_S1 : tab n_regions_Func_Next_S1 = some regions_Func_Next_S1 := rfl
theorem t_rv_Writes : tab n_rv_Writes = some rv_Writes := rfl
theorem t_rv_of : tab n_rv_of = some rv_of := rfl
theorem t_rv_Encode_S1 : tab n_rv_Encode_S1 = some rv_Encode_S1 := rfl
theorem t_rv_form_fits : tab n_rv_form_fits = some rv_form_fits := rfl
theorem t_rv_together : tab n_rv_together = some rv_together := rfl
theorem t_rv_form_spread : tab n_rv_form_spread = some rv_form_spread := rfl
theorem t_regions_Func_is : tab n_regions_Func_is = some regions_Func_is := rfl
theorem t_regions_Func_restores : tab n_regions_Func_restores = some regions_Func_restores := rfl
theorem t_image_Right_S1 : tab n_image_Right_S1 = some image_Right_S1 := rfl
theorem t_image_Right_S2 : tab n_image_Right_S2 = some image_Right_S2 := rfl
theorem t_image_Right_S3 : tab n_image_Right_S3 = some image_Right_S3 := rfl
theorem t_image_Right_S4 : tab n_image_Right_S4 = some image_Right_S4 := rfl
theorem t_image_Right_S5 : tab n_image_Right_S5 = some image_Right_S5 := rfl
theorem t_slices_ContainsFunc_image_Sym_image_Sym : tab n_slices_ContainsFunc_image_Sym_image_Sym = some slices_ContainsFunc_image_Sym_image_Sym := rfl
theorem t_slices_ContainsFunc_func_bool_func_bool : tab n_slices_ContainsFunc_func_bool_func_bool = some slices_ContainsFunc_func_bool_func_bool := rfl
theorem t_image_Right_S6 : tab n_image_Right_S6 = some image_Right_S6 := rfl
theorem t_image_Bounds : tab n_image_Bounds = some image_Bounds := rfl
theorem t_rv_Decode : tab n_rv_Decode = some rv_Decode := rfl
theorem t_regions_frame : tab n_regions_frame = some regions_frame := rfl
theorem t_regions_reader_fault : tab n_regions_reader_fault = some regions_reader_fault := rfl
theorem t_regions_Func_cuts : tab n_regions_Func_cuts = some regions_Func_cuts := rfl
theorem t_math_bits_Len : tab n_math_bits_Len = some math_bits_Len := rfl
theorem t_slices_IndexFunc_int_int : tab n_slices_IndexFunc_int_int = some slices_IndexFunc_int_int := rfl
theorem t_rv_table : tab n_rv_table = some rv_table := rfl
theorem t_rv_form_width : tab n_rv_form_width = some rv_form_width := rfl
theorem t_slices_IndexFunc_image_Sym_image_Sym : tab n_slices_IndexFunc_image_Sym_image_Sym = some slices_IndexFunc_image_Sym_image_Sym := rfl
theorem t_slices_IndexFunc_func_bool_func_bool : tab n_slices_IndexFunc_func_bool_func_bool = some slices_IndexFunc_func_bool_func_bool := rfl
theorem t_slices_IndexFunc_rv_row_rv_row : tab n_slices_IndexFunc_rv_row_rv_row = some slices_IndexFunc_rv_row_rv_row := rfl
theorem t_rv_Decode_S1 : tab n_rv_Decode_S1 = some rv_Decode_S1 := rfl
theorem t_rv_form_number : tab n_rv_form_number = some rv_form_number := rfl
theorem t_rv_bits_of : tab n_rv_bits_of = some rv_bits_of := rfl
theorem t_regions_reader_op : tab n_regions_reader_op = some regions_reader_op := rfl
theorem t_regions_reader_stack : tab n_regions_reader_stack = some regions_reader_stack := rfl
theorem t_regions_reader_target : tab n_regions_reader_target = some regions_reader_target := rfl
theorem t_regions_reader_back : tab n_regions_reader_back = some regions_reader_back := rfl
theorem t_math_bits_Len32 : tab n_math_bits_Len32 = some math_bits_Len32 := rfl
theorem t_math_bits_Len64 : tab n_math_bits_Len64 = some math_bits_Len64 := rfl
theorem t_rv_tells : tab n_rv_tells = some rv_tells := rfl
theorem t_regions_reader_op_S1 : tab n_regions_reader_op_S1 = some regions_reader_op_S1 := rfl
theorem t_slices_Contains_uint8_uint8 : tab n_slices_Contains_uint8_uint8 = some slices_Contains_uint8_uint8 := rfl
theorem t_rv_Reads : tab n_rv_Reads = some rv_Reads := rfl
theorem t_regions_reader_target_S1 : tab n_regions_reader_target_S1 = some regions_reader_target_S1 := rfl
theorem t_slices_Index_uint8_uint8 : tab n_slices_Index_uint8_uint8 = some slices_Index_uint8_uint8 := rfl
theorem t_slices_Sort_uint8_uint8 : tab n_slices_Sort_uint8_uint8 = some slices_Sort_uint8_uint8 := rfl
theorem t_slices_Compact_uint8_uint8 : tab n_slices_Compact_uint8_uint8 = some slices_Compact_uint8_uint8 := rfl
theorem t_slices_DeleteFunc_uint8_uint8 : tab n_slices_DeleteFunc_uint8_uint8 = some slices_DeleteFunc_uint8_uint8 := rfl
theorem t_rv_Reads_S1 : tab n_rv_Reads_S1 = some rv_Reads_S1 := rfl
theorem t_slices_pdqsortOrdered_uint8 : tab n_slices_pdqsortOrdered_uint8 = some slices_pdqsortOrdered_uint8 := rfl
theorem t_slices_IndexFunc_uint8_uint8 : tab n_slices_IndexFunc_uint8_uint8 = some slices_IndexFunc_uint8_uint8 := rfl
theorem t_slices_insertionSortOrdered_uint8 : tab n_slices_insertionSortOrdered_uint8 = some slices_insertionSortOrdered_uint8 := rfl
theorem t_cmp_Less_uint8 : tab n_cmp_Less_uint8 = some cmp_Less_uint8 := rfl
theorem t_cmp_isNaN_uint8 : tab n_cmp_isNaN_uint8 = some cmp_isNaN_uint8 := rfl
end Go.Proofs.YtaidbdgndljaeaaGreatDoor
