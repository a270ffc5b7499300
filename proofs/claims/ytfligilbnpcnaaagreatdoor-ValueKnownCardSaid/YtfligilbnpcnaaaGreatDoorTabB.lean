/- The translations of the functions, by a program of mine. -/
import Derived.Test.YtfligilbnpcnaaaGreatDoorTabA
namespace Go.Proofs.YtfligilbnpcnaaaGreatDoor
open Go Go.Am
set_option maxRecDepth 100000
/- proofmark/term.words -/
def zqw_0 : AT := (.wr false (some 3) none (.box 50 (.t 0))
 (.rd (some 6) none (.mov (.c (.str [])))
 .done))
def zqw_1 : AT := (.rd (some 8) none (.faddr 1 (.t 3))
 (.rd (some 9) none (.load false 1 (.t 8))
 (.cl false (some 10) none (.c (.fn (.func 53) [] [])) [(.t 9), (.c (.int .i64 10))]
 (.rd (some 7) none (.mov (.t 10))
 .done))))
def zqw_2 : AT := (.rd (some 11) none (.faddr 0 (.t 3))
 (.rd (some 12) none (.load false 1 (.t 11))
 .done))
def zqw_3 : AT := (.rd (some 14) none (.bin .eql (.t 12) (.c (.int .u8 1)))
 (.rd (some 13) none (.mov (.t 14))
 .done))
def zqw_4 : AT := (.rd (some 15) none (.mov (.t 7))
 (.rd (some 6) none (.mov (.t 15))
 .done))
def zqw_5 : AT := (.rd (some 17) none (.bin .eql (.t 12) (.c (.int .u8 2)))
 (.rd (some 16) none (.mov (.t 17))
 .done))
def zqw_6 : AT := (.rd (some 18) none (.mov (.t 7))
 (.rd (some 19) none (.bin .add (.c (.str [115])) (.t 18))
 (.rd (some 6) none (.mov (.t 19))
 .done)))
def zqw_7 : AT := (.rd (some 21) none (.bin .eql (.t 12) (.c (.int .u8 3)))
 (.rd (some 20) none (.mov (.t 21))
 .done))
def zqw_8 : AT := (.rd (some 22) none (.faddr 2 (.t 3))
 (.rd (some 23) none (.load false 1 (.t 22))
 (.cl false (some 24) none (.c (.fn (.func 54) [] [])) [(.t 23)]
 (.rd (some 25) none (.bin .add (.c (.str [97])) (.t 24))
 (.rd (some 26) none (.bin .add (.t 25) (.c (.str [118])))
 (.rd (some 27) none (.mov (.t 7))
 (.rd (some 28) none (.bin .add (.t 26) (.t 27))
 (.rd (some 29) none (.bin .add (.t 28) (.c (.str [91])))
 (.rd (some 30) none (.mov (.t 2))
 (.rd (some 31) none (.bin .add (.t 29) (.t 30))
 (.rd (some 32) none (.bin .add (.t 31) (.c (.str [93])))
 (.rd (some 6) none (.mov (.t 32))
 .done))))))))))))
def zqw_9 : AT := (.rd (some 33) none (.mov (.t 1))
 (.rd (some 34) none (.bin .add (.c (.str [40])) (.t 33))
 (.rd (some 35) none (.bin .add (.t 34) (.c (.str [32])))
 (.rd (some 36) none (.faddr 3 (.t 3))
 (.rd (some 37) none (.load false 1 (.t 36))
 (.cl false (some 38) none (.c (.fn (.func 55) [] [])) [(.t 37)]
 (.rd (some 39) none (.bin .add (.t 35) (.t 38))
 (.rd (some 40) none (.bin .add (.t 39) (.c (.str [32])))
 (.rd (some 41) none (.mov (.t 2))
 (.rd (some 42) none (.bin .add (.t 40) (.t 41))
 (.rd (some 43) none (.bin .add (.t 42) (.c (.str [41])))
 (.rd (some 6) none (.mov (.t 43))
 .done))))))))))))
def term_words : AF := ⟨44, [.tmp 6],
  (.seq (.reg zqw_0 [])
  (.seq (.reg zqw_1 [8, 9, 10])
  (.seq (.seq (.reg zqw_2 [11])
  (.block 0 (.seq (.reg zqw_3 [14])
  (.cond (.t 13)
  (.seq (.reg zqw_4 [15])
  .ret)
  (.seq (.reg zqw_5 [17])
  (.cond (.t 16)
  (.seq (.reg zqw_6 [18, 19])
  .ret)
  (.seq (.reg zqw_7 [21])
  (.cond (.t 20)
  (.seq (.reg zqw_8 [22, 23, 24, 25, 26, 27, 28, 29, 30, 31, 32])
  .ret)
  .skip))))))))
  (.seq (.reg zqw_9 [33, 34, 35, 36, 37, 38, 39, 40, 41, 42, 43])
  .ret))))⟩
abbrev n_term_words : Nat := 35
/- proofmark/term.parts -/
def zqx_0 : AT := (.wr false (some 1) none (.box 50 (.t 0))
 (.rd (some 2) none (.mov (.c (.lst 0 [] true)))
 .done))
def zqx_1 : AT := (.rd (some 3) none (.faddr 0 (.t 1))
 (.rd (some 4) none (.load false 1 (.t 3))
 .done))
def zqx_2 : AT := (.rd (some 6) none (.bin .eql (.t 4) (.c (.int .u8 3)))
 (.rd (some 5) none (.mov (.t 6))
 .done))
def zqx_3 : AT := (.rd (some 7) none (.faddr 5 (.t 1))
 (.rd (some 8) none (.load false 1 (.t 7))
 (.wr false (some 9) none (.bsl false false 44 1 [(.int .i64 0)] 1 [(0, 1, (.t 8))])
 (.rd (some 2) none (.mov (.t 9))
 .done))))
def zqx_4 : AT := (.rd (some 11) none (.bin .eql (.t 4) (.c (.int .u8 4)))
 (.rd (some 10) none (.mov (.t 11))
 .done))
def zqx_5 : AT := (.rd (some 12) none (.faddr 4 (.t 1))
 (.rd (some 13) none (.load false 1 (.t 12))
 (.rd (some 14) none (.faddr 5 (.t 1))
 (.rd (some 15) none (.load false 1 (.t 14))
 (.wr false (some 16) none (.bsl false false 44 1 [(.int .i64 0)] 2 [(0, 1, (.t 13)), (1, 1, (.t 15))])
 (.rd (some 2) none (.mov (.t 16))
 .done))))))
def zqx_6 : AT := (.rd (some 2) none (.mov (.c (.lst 0 [] true)))
 .done)
def term_parts : AF := ⟨17, [.tmp 2],
  (.seq (.reg zqx_0 [])
  (.seq (.seq (.reg zqx_1 [3])
  (.block 0 (.seq (.reg zqx_2 [6])
  (.cond (.t 5)
  (.seq (.reg zqx_3 [7, 8, 9])
  .ret)
  (.seq (.reg zqx_4 [11])
  (.cond (.t 10)
  (.seq (.reg zqx_5 [12, 13, 14, 15, 16])
  .ret)
  .skip))))))
  (.seq (.reg zqx_6 [])
  .ret)))⟩
abbrev n_term_parts : Nat := 36
/- (*proofmark/term.Graph).is -/
def zqy_0 : AT := (.rd (some 4) none (.mov (.c (.bool false)))
 .done)
def zqy_1 : AT := (.rd (some 5) none (.mov (.t 0))
 (.rd (some 6) none (.eqp true (.t 5) (.c (.val (.pointer none))))
 (.rd (some 7) none (.mov (.t 6))
 (.rd (some 8) (some (7, true)) (.mov (.t 1))
 (.rd (some 9) (some (7, true)) (.bin .geq (.t 8) (.c (.int .i64 0)))
 (.rd (some 10) none (.pick (.t 7) (.t 9) (.c (.bool false)))
 (.rd (some 11) none (.mov (.t 10))
 (.rd (some 12) (some (11, true)) (.mov (.t 1))
 (.rd (some 13) (some (11, true)) (.mov (.t 0))
 (.rd (some 14) (some (11, true)) (.nilc (.t 13))
 (.rd (some 15) (some (11, true)) (.faddr 0 (.t 14))
 (.rd (some 16) (some (11, true)) (.load false 1 (.t 15))
 (.rd (some 17) (some (11, true)) (.len 0 (.t 16))
 (.rd (some 18) (some (11, true)) (.bin .lss (.t 12) (.t 17))
 (.rd (some 19) none (.pick (.t 11) (.t 18) (.c (.bool false)))
 (.rd (some 4) none (.mov (.t 19))
 .done))))))))))))))))
def term_Graph_is : AF := ⟨20, [.tmp 4],
  (.seq (.reg zqy_0 [])
  (.seq (.reg zqy_1 [5, 6, 7, 8, 9, 10, 11, 12, 13, 14, 15, 16, 17, 18, 19])
  .ret))⟩
abbrev n_term_Graph_is : Nat := 37
/- proofmark/proofmarkref01.add -/
def zqz_0 : AT := (.rd (some 4) none (.mov (.c (.int .i64 0)))
 .done)
def zqz_1 : AT := (.rd (some 5) none (.mov (.c (.int .u64 0)))
 (.rd (some 6) none (.mov (.c (.int .u64 0)))
 .done))
def zqz_2 : AT := (.rd (some 7) none (.mov (.c (.int .i64 0)))
 .done)
def zqz_3 : AT := (.rd (some 9) none (.mov (.t 7))
 (.rd (some 10) none (.bin .lss (.t 9) (.c (.int .i64 64)))
 .done))
def zqz_4 : AT := (.rd (some 13) none (.mov (.t 0))
 (.rd (some 14) none (.mov (.t 7))
 (.cl false (some 15) none (.c (.fn (.func 43) [] [])) [(.t 13), (.t 14)]
 (.rd (some 16) none (.mov (.t 1))
 (.rd (some 17) none (.mov (.t 7))
 (.cl false (some 18) none (.c (.fn (.func 43) [] [])) [(.t 16), (.t 17)]
 (.rd (some 19) none (.bin .add (.t 15) (.t 18))
 (.rd (some 20) none (.mov (.t 6))
 (.rd (some 21) none (.bin .add (.t 19) (.t 20))
 (.rd (some 8) none (.mov (.t 21))
 .done))))))))))
def zqz_5 : AT := (.rd (some 22) none (.mov (.t 5))
 (.rd (some 23) none (.mov (.t 8))
 (.rd (some 24) none (.bin .and (.t 23) (.c (.int .u64 1)))
 (.rd (some 25) none (.mov (.t 7))
 (.rd (some 26) none (.bin .shl (.t 24) (.t 25))
 (.rd (some 27) none (.bin .or (.t 22) (.t 26))
 (.rd (some 5) none (.mov (.t 27))
 .done)))))))
def zqz_6 : AT := (.rd (some 28) none (.mov (.t 8))
 (.rd (some 29) none (.bin .shr (.t 28) (.c (.int .u64 1)))
 (.rd (some 6) none (.mov (.t 29))
 .done)))
def zqz_7 : AT := (.rd (some 11) none (.mov (.t 7))
 (.rd (some 12) none (.bin .add (.t 11) (.c (.int .i64 1)))
 (.rd (some 7) none (.mov (.t 12))
 .done)))
def zqz_8 : AT := (.rd (some 30) none (.mov (.t 5))
 (.rd (some 31) none (.conv .i64 (.t 30))
 (.rd (some 4) none (.mov (.t 31))
 .done)))
def proofmarkref01_add : AF := ⟨32, [.tmp 4],
  (.seq (.reg zqz_0 [])
  (.seq (.reg zqz_1 [])
  (.seq (.seq (.reg zqz_2 [])
  (.block 0 (.loop (.seq (.seq (.reg zqz_3 [9])
  (.cond (.t 10)
  .skip
  (.exit 0)))
  (.seq (.block 1 (.seq (.reg zqz_4 [13, 14, 15, 16, 17, 18, 19, 20, 21])
  (.seq (.reg zqz_5 [22, 23, 24, 25, 26, 27])
  (.reg zqz_6 [28, 29]))))
  (.reg zqz_7 [11, 12]))))))
  (.seq (.reg zqz_8 [30, 31])
  .ret))))⟩
abbrev n_proofmarkref01_add : Nat := 38
/- proofmark/proofmarkref01.neg -/
def zq10_0 : AT := (.rd (some 2) none (.mov (.c (.int .i64 0)))
 .done)
def zq10_1 : AT := (.rd (some 3) none (.mov (.t 0))
 (.rd (some 4) none (.un .xor (.t 3))
 (.cl false (some 5) none (.c (.fn (.func 38) [] [])) [(.t 4), (.c (.int .i64 1))]
 (.rd (some 2) none (.mov (.t 5))
 .done))))
def proofmarkref01_neg : AF := ⟨6, [.tmp 2],
  (.seq (.reg zq10_0 [])
  (.seq (.reg zq10_1 [3, 4, 5])
  .ret))⟩
abbrev n_proofmarkref01_neg : Nat := 39
/- proofmark/proofmarkref01.mul -/
def zq11_0 : AT := (.rd (some 4) none (.mov (.c (.int .i64 0)))
 .done)
def zq11_1 : AT := (.rd (some 5) none (.mov (.c (.int .i64 0)))
 .done)
def zq11_2 : AT := (.rd (some 6) none (.mov (.c (.int .i64 0)))
 .done)
def zq11_3 : AT := (.rd (some 7) none (.mov (.t 6))
 (.rd (some 8) none (.bin .lss (.t 7) (.c (.int .i64 64)))
 .done))
def zq11_4 : AT := (.rd (some 11) none (.mov (.t 1))
 (.rd (some 12) none (.mov (.t 6))
 (.cl false (some 13) none (.c (.fn (.func 43) [] [])) [(.t 11), (.t 12)]
 (.rd (some 14) none (.bin .eql (.t 13) (.c (.int .u64 1)))
 .done))))
def zq11_5 : AT := (.rd (some 15) none (.mov (.t 5))
 (.rd (some 16) none (.mov (.t 0))
 (.rd (some 17) none (.conv .u64 (.t 16))
 (.rd (some 18) none (.mov (.t 6))
 (.rd (some 19) none (.bin .shl (.t 17) (.t 18))
 (.rd (some 20) none (.conv .i64 (.t 19))
 (.cl false (some 21) none (.c (.fn (.func 38) [] [])) [(.t 15), (.t 20)]
 (.rd (some 5) none (.mov (.t 21))
 .done))))))))
def zq11_6 : AT := (.rd (some 9) none (.mov (.t 6))
 (.rd (some 10) none (.bin .add (.t 9) (.c (.int .i64 1)))
 (.rd (some 6) none (.mov (.t 10))
 .done)))
def zq11_7 : AT := (.rd (some 22) none (.mov (.t 5))
 (.rd (some 4) none (.mov (.t 22))
 .done))
def proofmarkref01_mul : AF := ⟨23, [.tmp 4],
  (.seq (.reg zq11_0 [])
  (.seq (.reg zq11_1 [])
  (.seq (.seq (.reg zq11_2 [])
  (.block 0 (.loop (.seq (.seq (.reg zq11_3 [7])
  (.cond (.t 8)
  .skip
  (.exit 0)))
  (.seq (.block 1 (.seq (.reg zq11_4 [11, 12, 13])
  (.cond (.t 14)
  (.reg zq11_5 [15, 16, 17, 18, 19, 20, 21])
  .skip)))
  (.reg zq11_6 [9, 10]))))))
  (.seq (.reg zq11_7 [22])
  .ret))))⟩
abbrev n_proofmarkref01_mul : Nat := 40
/- proofmark/proofmarkref01.quotients -/
def zq12_0 : AT := (.rd (some 6) none (.mov (.c (.int .i64 0)))
 .done)
def zq12_1 : AT := (.rd (some 9) none (.mov (.t 2))
 (.rd (some 10) none (.bin .eql (.t 9) (.c (.int .i64 0)))
 .done))
def zq12_2 : AT := (.rd (some 11) none (.mov (.t 0))
 (.rd (some 12) none (.bin .eql (.t 11) (.c (.int .u8 4)))
 (.rd (some 13) none (.mov (.t 12))
 (.rd (some 14) (some (13, false)) (.mov (.t 0))
 (.rd (some 15) (some (13, false)) (.bin .eql (.t 14) (.c (.int .u8 6)))
 (.rd (some 16) none (.pick (.t 13) (.c (.bool true)) (.t 15))
 .done))))))
def zq12_3 : AT := (.rd (some 6) none (.mov (.c (.int .i64 (-1))))
 .done)
def zq12_4 : AT := (.rd (some 17) none (.mov (.t 1))
 (.rd (some 6) none (.mov (.t 17))
 .done))
def zq12_5 : AT := (.rd (some 19) none (.mov (.t 1))
 (.rd (some 20) none (.mov (.t 2))
 (.cl false (some 21) none (.c (.fn (.func 56) [] [])) [(.t 19), (.t 20)]
 (.rd (some 18) none (.mov (.t 21))
 (.rd (some 22) none (.extr (.t 18) 0)
 (.rd (some 23) none (.extr (.t 18) 1)
 (.rd (some 7) none (.mov (.t 22))
 (.rd (some 8) none (.mov (.t 23))
 .done))))))))
def zq12_6 : AT := (.rd (some 24) none (.mov (.t 0))
 (.rd (some 25) none (.bin .eql (.t 24) (.c (.int .u8 4)))
 (.rd (some 26) none (.mov (.t 25))
 (.rd (some 27) (some (26, false)) (.mov (.t 0))
 (.rd (some 28) (some (26, false)) (.bin .eql (.t 27) (.c (.int .u8 5)))
 (.rd (some 29) none (.pick (.t 26) (.c (.bool true)) (.t 28))
 .done))))))
def zq12_7 : AT := (.rd (some 31) none (.mov (.t 1))
 (.rd (some 32) none (.mov (.t 2))
 (.cl false (some 33) none (.c (.fn (.func 57) [] [])) [(.t 31), (.t 32)]
 (.rd (some 30) none (.mov (.t 33))
 (.rd (some 34) none (.extr (.t 30) 0)
 (.rd (some 35) none (.extr (.t 30) 1)
 (.rd (some 7) none (.mov (.t 34))
 (.rd (some 8) none (.mov (.t 35))
 .done))))))))
def zq12_8 : AT := (.rd (some 36) none (.mov (.t 0))
 (.rd (some 37) none (.bin .eql (.t 36) (.c (.int .u8 4)))
 (.rd (some 38) none (.mov (.t 37))
 (.rd (some 39) (some (38, false)) (.mov (.t 0))
 (.rd (some 40) (some (38, false)) (.bin .eql (.t 39) (.c (.int .u8 6)))
 (.rd (some 41) none (.pick (.t 38) (.c (.bool true)) (.t 40))
 .done))))))
def zq12_9 : AT := (.rd (some 42) none (.mov (.t 7))
 (.rd (some 6) none (.mov (.t 42))
 .done))
def zq12_10 : AT := (.rd (some 43) none (.mov (.t 8))
 (.rd (some 6) none (.mov (.t 43))
 .done))
def proofmarkref01_quotients : AF := ⟨44, [.tmp 6],
  (.seq (.reg zq12_0 [])
  (.seq (.seq (.reg zq12_1 [9])
  (.cond (.t 10)
  (.seq (.seq (.reg zq12_2 [11, 12, 13, 14, 15])
  (.cond (.t 16)
  (.seq (.reg zq12_3 [])
  .ret)
  .skip))
  (.seq (.reg zq12_4 [17])
  .ret))
  .skip))
  (.seq (.reg zq12_5 [19, 20, 21, 18, 22, 23])
  (.seq (.seq (.reg zq12_6 [24, 25, 26, 27, 28])
  (.cond (.t 29)
  (.reg zq12_7 [31, 32, 33, 30, 34, 35])
  .skip))
  (.seq (.seq (.reg zq12_8 [36, 37, 38, 39, 40])
  (.cond (.t 41)
  (.seq (.reg zq12_9 [42])
  .ret)
  .skip))
  (.seq (.reg zq12_10 [43])
  .ret))))))⟩
abbrev n_proofmarkref01_quotients : Nat := 41
/- proofmark/proofmarkref01.moved -/
def zq13_0 : AT := (.rd (some 8) none (.mov (.c (.int .i64 0)))
 .done)
def zq13_1 : AT := (.rd (some 9) none (.mov (.c (.int .u64 0)))
 .done)
def zq13_2 : AT := (.rd (some 10) none (.mov (.c (.int .i64 0)))
 .done)
def zq13_3 : AT := (.rd (some 13) none (.mov (.t 10))
 (.rd (some 14) none (.bin .lss (.t 13) (.c (.int .i64 64)))
 .done))
def zq13_4 : AT := (.rd (some 17) none (.mov (.t 10))
 (.rd (some 18) none (.mov (.t 3))
 (.rd (some 19) none (.bin .add (.t 17) (.t 18))
 (.rd (some 11) none (.mov (.t 19))
 .done))))
def zq13_5 : AT := (.rd (some 20) none (.mov (.t 1))
 .done)
def zq13_6 : AT := (.rd (some 21) none (.mov (.t 10))
 (.rd (some 22) none (.mov (.t 3))
 (.rd (some 23) none (.bin .sub (.t 21) (.t 22))
 (.rd (some 11) none (.mov (.t 23))
 .done))))
def zq13_7 : AT := (.rd (some 24) none (.mov (.t 2))
 (.rd (some 12) none (.mov (.t 24))
 .done))
def zq13_8 : AT := (.rd (some 25) none (.mov (.t 11))
 (.rd (some 26) none (.bin .geq (.t 25) (.c (.int .i64 0)))
 (.rd (some 27) none (.mov (.t 26))
 (.rd (some 28) (some (27, true)) (.mov (.t 11))
 (.rd (some 29) (some (27, true)) (.bin .lss (.t 28) (.c (.int .i64 64)))
 (.rd (some 30) none (.pick (.t 27) (.t 29) (.c (.bool false)))
 .done))))))
def zq13_9 : AT := (.rd (some 31) none (.mov (.t 0))
 (.rd (some 32) none (.mov (.t 11))
 (.cl false (some 33) none (.c (.fn (.func 43) [] [])) [(.t 31), (.t 32)]
 (.rd (some 12) none (.mov (.t 33))
 .done))))
def zq13_10 : AT := (.rd (some 34) none (.mov (.t 1))
 (.rd (some 35) none (.mov (.t 34))
 (.rd (some 36) (some (35, true)) (.mov (.t 11))
 (.rd (some 37) (some (35, true)) (.bin .lss (.t 36) (.c (.int .i64 0)))
 (.rd (some 38) none (.pick (.t 35) (.t 37) (.c (.bool false)))
 .done)))))
def zq13_11 : AT := (.rd (some 12) none (.mov (.c (.int .u64 0)))
 .done)
def zq13_12 : AT := (.rd (some 39) none (.mov (.t 9))
 (.rd (some 40) none (.mov (.t 12))
 (.rd (some 41) none (.mov (.t 10))
 (.rd (some 42) none (.bin .shl (.t 40) (.t 41))
 (.rd (some 43) none (.bin .or (.t 39) (.t 42))
 (.rd (some 9) none (.mov (.t 43))
 .done))))))
def zq13_13 : AT := (.rd (some 15) none (.mov (.t 10))
 (.rd (some 16) none (.bin .add (.t 15) (.c (.int .i64 1)))
 (.rd (some 10) none (.mov (.t 16))
 .done)))
def zq13_14 : AT := (.rd (some 44) none (.mov (.t 9))
 (.rd (some 45) none (.conv .i64 (.t 44))
 (.rd (some 8) none (.mov (.t 45))
 .done)))
def proofmarkref01_moved : AF := ⟨46, [.tmp 8],
  (.seq (.reg zq13_0 [])
  (.seq (.reg zq13_1 [])
  (.seq (.seq (.reg zq13_2 [])
  (.block 0 (.loop (.seq (.seq (.reg zq13_3 [13])
  (.cond (.t 14)
  .skip
  (.exit 0)))
  (.seq (.block 1 (.seq (.reg zq13_4 [17, 18, 19])
  (.seq (.seq (.reg zq13_5 [])
  (.cond (.t 20)
  (.reg zq13_6 [21, 22, 23])
  .skip))
  (.seq (.reg zq13_7 [24])
  (.seq (.seq (.reg zq13_8 [25, 26, 27, 28, 29])
  (.cond (.t 30)
  (.reg zq13_9 [31, 32, 33])
  .skip))
  (.seq (.seq (.reg zq13_10 [34, 35, 36, 37])
  (.cond (.t 38)
  (.reg zq13_11 [])
  .skip))
  (.reg zq13_12 [39, 40, 41, 42, 43])))))))
  (.reg zq13_13 [15, 16]))))))
  (.seq (.reg zq13_14 [44, 45])
  .ret))))⟩
abbrev n_proofmarkref01_moved : Nat := 42
/- proofmark/proofmarkref01.bit -/
def zq14_0 : AT := (.rd (some 4) none (.mov (.c (.int .u64 0)))
 .done)
def zq14_1 : AT := (.rd (some 5) none (.mov (.t 0))
 (.rd (some 6) none (.conv .u64 (.t 5))
 (.rd (some 7) none (.mov (.t 1))
 (.rd (some 8) none (.bin .shr (.t 6) (.t 7))
 (.rd (some 9) none (.bin .and (.t 8) (.c (.int .u64 1)))
 (.rd (some 4) none (.mov (.t 9))
 .done))))))
def proofmarkref01_bit : AF := ⟨10, [.tmp 4],
  (.seq (.reg zq14_0 [])
  (.seq (.reg zq14_1 [5, 6, 7, 8, 9])
  .ret))⟩
abbrev n_proofmarkref01_bit : Nat := 43
/- proofmark/proofmarkref01.one -/
def zq15_0 : AT := (.rd (some 2) none (.mov (.c (.int .i64 0)))
 .done)
def zq15_1 : AT := (.rd (some 3) none (.mov (.t 0))
 .done)
def zq15_2 : AT := (.rd (some 2) none (.mov (.c (.int .i64 1)))
 .done)
def zq15_3 : AT := (.rd (some 2) none (.mov (.c (.int .i64 0)))
 .done)
def proofmarkref01_one : AF := ⟨4, [.tmp 2],
  (.seq (.reg zq15_0 [])
  (.seq (.seq (.reg zq15_1 [])
  (.cond (.t 3)
  (.seq (.reg zq15_2 [])
  .ret)
  .skip))
  (.seq (.reg zq15_3 [])
  .ret)))⟩
abbrev n_proofmarkref01_one : Nat := 44
/- proofmark/proofmarkref01.below -/
def zq16_0 : AT := (.rd (some 4) none (.mov (.c (.bool false)))
 .done)
def zq16_1 : AT := (.rd (some 5) none (.mov (.c (.int .i64 63)))
 .done)
def zq16_2 : AT := (.rd (some 6) none (.mov (.t 5))
 (.rd (some 7) none (.bin .geq (.t 6) (.c (.int .i64 0)))
 .done))
def zq16_3 : AT := (.rd (some 10) none (.mov (.t 0))
 (.rd (some 11) none (.mov (.t 5))
 (.cl false (some 12) none (.c (.fn (.func 43) [] [])) [(.t 10), (.t 11)]
 (.rd (some 13) none (.mov (.t 1))
 (.rd (some 14) none (.mov (.t 5))
 (.cl false (some 15) none (.c (.fn (.func 43) [] [])) [(.t 13), (.t 14)]
 (.rd (some 16) none (.bin .neq (.t 12) (.t 15))
 .done)))))))
def zq16_4 : AT := (.rd (some 17) none (.mov (.t 1))
 (.rd (some 18) none (.mov (.t 5))
 (.cl false (some 19) none (.c (.fn (.func 43) [] [])) [(.t 17), (.t 18)]
 (.rd (some 20) none (.bin .eql (.t 19) (.c (.int .u64 1)))
 (.rd (some 4) none (.mov (.t 20))
 .done)))))
def zq16_5 : AT := (.rd (some 8) none (.mov (.t 5))
 (.rd (some 9) none (.bin .sub (.t 8) (.c (.int .i64 1)))
 (.rd (some 5) none (.mov (.t 9))
 .done)))
def zq16_6 : AT := (.rd (some 4) none (.mov (.c (.bool false)))
 .done)
def proofmarkref01_below : AF := ⟨21, [.tmp 4],
  (.seq (.reg zq16_0 [])
  (.seq (.seq (.reg zq16_1 [])
  (.block 0 (.loop (.seq (.seq (.reg zq16_2 [6])
  (.cond (.t 7)
  .skip
  (.exit 0)))
  (.seq (.block 1 (.seq (.reg zq16_3 [10, 11, 12, 13, 14, 15])
  (.cond (.t 16)
  (.seq (.reg zq16_4 [17, 18, 19, 20])
  .ret)
  .skip)))
  (.reg zq16_5 [8, 9]))))))
  (.seq (.reg zq16_6 [])
  .ret)))⟩
abbrev n_proofmarkref01_below : Nat := 45
/- proofmark/word.of -/
def zq17_0 : AT := (.wr false (some 2) none (.new 95 [(.val .nilFunc), (.bool false), (.bool false), (.int .i64 0), (.bool false)])
 .done)
def zq17_1 : AT := (.rd (some 4) none (.build [(.val .nilFunc), (.bool false), (.bool false), (.int .i64 0), (.bool false)] [(0, 1, (.c (.fn (.func 58) [] []))), (1, 1, (.c (.bool true))), (2, 1, (.c (.bool true))), (3, 1, (.c (.int .i64 0))), (4, 1, (.c (.bool true)))])
 (.rd (some 5) none (.build [(.val .nilFunc), (.bool false), (.bool false), (.int .i64 0), (.bool false)] [(0, 1, (.c (.fn (.func 59) [] []))), (1, 1, (.c (.bool false))), (2, 1, (.c (.bool false))), (3, 1, (.c (.int .i64 0))), (4, 1, (.c (.bool true)))])
 (.rd (some 6) none (.build [(.val .nilFunc), (.bool false), (.bool false), (.int .i64 0), (.bool false)] [(0, 1, (.c (.fn (.func 60) [] []))), (1, 1, (.c (.bool true))), (2, 1, (.c (.bool true))), (3, 1, (.c (.int .i64 1))), (4, 1, (.c (.bool true)))])
 (.rd (some 7) none (.build [(.val .nilFunc), (.bool false), (.bool false), (.int .i64 0), (.bool false)] [(0, 1, (.c (.fn (.func 61) [] []))), (1, 1, (.c (.bool false))), (2, 1, (.c (.bool false))), (3, 1, (.c (.int .i64 1))), (4, 1, (.c (.bool true)))])
 (.rd (some 8) none (.build [(.val .nilFunc), (.bool false), (.bool false), (.int .i64 0), (.bool false)] [(0, 1, (.c (.fn (.func 62) [] []))), (1, 1, (.c (.bool false))), (2, 1, (.c (.bool false))), (3, 1, (.c (.int .i64 0))), (4, 1, (.c (.bool true)))])
 (.rd (some 9) none (.build [(.val .nilFunc), (.bool false), (.bool false), (.int .i64 0), (.bool false)] [(0, 1, (.c (.fn (.func 63) [] []))), (1, 1, (.c (.bool false))), (2, 1, (.c (.bool false))), (3, 1, (.c (.int .i64 1))), (4, 1, (.c (.bool true)))])
 (.rd (some 10) none (.build [(.val .nilFunc), (.bool false), (.bool false), (.int .i64 0), (.bool false)] [(0, 1, (.c (.fn (.func 64) [] []))), (1, 1, (.c (.bool false))), (2, 1, (.c (.bool false))), (3, 1, (.c (.int .i64 0))), (4, 1, (.c (.bool true)))])
 (.rd (some 11) none (.build [(.val .nilFunc), (.bool false), (.bool false), (.int .i64 0), (.bool false)] [(0, 1, (.c (.fn (.func 65) [] []))), (1, 1, (.c (.bool true))), (2, 1, (.c (.bool true))), (3, 1, (.c (.int .i64 (-1)))), (4, 1, (.c (.bool true)))])
 (.rd (some 12) none (.build [(.val .nilFunc), (.bool false), (.bool false), (.int .i64 0), (.bool false)] [(0, 1, (.c (.fn (.func 66) [] []))), (1, 1, (.c (.bool true))), (2, 1, (.c (.bool true))), (3, 1, (.c (.int .i64 0))), (4, 1, (.c (.bool true)))])
 (.rd (some 13) none (.build [(.val .nilFunc), (.bool false), (.bool false), (.int .i64 0), (.bool false)] [(0, 1, (.c (.fn (.func 67) [] []))), (1, 1, (.c (.bool true))), (2, 1, (.c (.bool true))), (3, 1, (.c (.int .i64 0))), (4, 1, (.c (.bool true)))])
 (.rd (some 14) none (.build [(.val .nilFunc), (.bool false), (.bool false), (.int .i64 0), (.bool false)] [(0, 1, (.c (.fn (.func 68) [] []))), (1, 1, (.c (.bool false))), (2, 1, (.c (.bool false))), (3, 1, (.c (.int .i64 0))), (4, 1, (.c (.bool true)))])
 (.rd (some 15) none (.build [(.val .nilFunc), (.bool false), (.bool false), (.int .i64 0), (.bool false)] [(0, 1, (.c (.fn (.func 69) [] []))), (1, 1, (.c (.bool false))), (2, 1, (.c (.bool false))), (3, 1, (.c (.int .i64 0))), (4, 1, (.c (.bool true)))])
 (.rd (some 16) none (.build [(.val .nilFunc), (.bool false), (.bool false), (.int .i64 0), (.bool false)] [(0, 1, (.c (.fn (.func 70) [] []))), (1, 1, (.c (.bool false))), (2, 1, (.c (.bool false))), (3, 1, (.c (.int .i64 0))), (4, 1, (.c (.bool true)))])
 (.rd (some 17) none (.build [(.val .nilFunc), (.bool false), (.bool false), (.int .i64 0), (.bool false)] [(0, 1, (.c (.fn (.func 71) [] []))), (1, 1, (.c (.bool false))), (2, 1, (.c (.bool false))), (3, 1, (.c (.int .i64 0))), (4, 1, (.c (.bool false)))])
 (.rd (some 18) none (.build [(.val .nilFunc), (.bool false), (.bool false), (.int .i64 0), (.bool false)] [(0, 1, (.c (.fn (.func 73) [] []))), (1, 1, (.c (.bool false))), (2, 1, (.c (.bool false))), (3, 1, (.c (.int .i64 0))), (4, 1, (.c (.bool false)))])
 (.rd (some 19) none (.build [(.val .nilFunc), (.bool false), (.bool false), (.int .i64 0), (.bool false)] [(0, 1, (.c (.fn (.func 74) [] []))), (1, 1, (.c (.bool true))), (2, 1, (.c (.bool false))), (3, 1, (.c (.int .i64 0))), (4, 1, (.c (.bool false)))])
 (.rd (some 20) none (.build (List.replicate 17 [(.val .nilFunc), (.bool false), (.bool false), (.int .i64 0), (.bool false)]).flatten [(5, 5, (.t 4)), (10, 5, (.t 5)), (15, 5, (.t 6)), (20, 5, (.t 7)), (25, 5, (.t 8)), (30, 5, (.t 9)), (35, 5, (.t 10)), (40, 5, (.t 11)), (45, 5, (.t 12)), (50, 5, (.t 13)), (55, 5, (.t 14)), (60, 5, (.t 15)), (65, 5, (.t 16)), (70, 5, (.t 17)), (75, 5, (.t 18)), (80, 5, (.t 19))])
 (.wr false (some 3) none (.new 110 (List.replicate 17 [(.val .nilFunc), (.bool false), (.bool false), (.int .i64 0), (.bool false)]).flatten)
 (.wr false none none (.store 85 (.t 3) (.t 20))
 .done)))))))))))))))))))
def zq17_2 : AT := (.rd (some 21) none (.mov (.t 0))
 (.rd (some 22) none (.conv .i64 (.t 21))
 (.rd (some 23) none (.bin .geq (.t 22) (.c (.int .i64 17)))
 .done)))
def zq17_3 : AT := (.rd (some 24) none (.build [(.val .nilFunc), (.bool false), (.bool false), (.int .i64 0), (.bool false)] [])
 (.wr false none none (.store 5 (.t 2) (.t 24))
 .done))
def zq17_4 : AT := (.rd (some 25) none (.mov (.t 0))
 (.rd (some 26) none (.iaddr (some 17) 5 (.t 3) (.t 25))
 (.rd (some 27) none (.load true 5 (.t 26))
 (.wr false none none (.store 5 (.t 2) (.t 27))
 .done))))
def word_of : AF := ⟨28, [.cell 2 true 5],
  (.seq (.reg zq17_0 [])
  (.seq (.reg zq17_1 [4, 5, 6, 7, 8, 9, 10, 11, 12, 13, 14, 15, 16, 17, 18, 19, 20])
  (.seq (.seq (.reg zq17_2 [21, 22])
  (.cond (.t 23)
  (.seq (.reg zq17_3 [24])
  .ret)
  .skip))
  (.seq (.reg zq17_4 [25, 26, 27])
  .ret))))⟩
abbrev n_word_of : Nat := 46
/- (*proofmark/term.Graph).Uses$1 -/
def zq18_0 : AT := (.rd (some 8) none (.load false 1 (.t 1))
 (.rd (some 9) none (.mov (.t 0))
 (.cl false (some 10) none (.c (.fn (.func 37) [] [])) [(.t 8), (.t 9)]
 (.rd (some 11) none (.un .not (.t 10))
 (.rd (some 12) none (.mov (.t 11))
 (.rd (some 13) (some (12, false)) (.load false 1 (.t 2))
 (.rd (some 14) (some (12, false)) (.mov (.t 0))
 (.rd (some 15) (some (12, false)) (.look false false [.i] (.int .i64 0) (.t 13) (.t 14))
 (.rd (some 16) (some (12, false)) (.bin .gtr (.t 15) (.c (.int .i64 0)))
 (.rd (some 17) none (.pick (.t 12) (.c (.bool true)) (.t 16))
 .done))))))))))
def zq18_1 : AT := (.rd (some 18) none (.load false 1 (.t 2))
 (.rd (some 19) none (.mov (.t 0))
 (.wr false none none (.mapup false [.i] (.t 18) (.t 19) (.c (.int .i64 1)))
 .done)))
def zq18_2 : AT := (.rd (some 20) none (.load false 1 (.t 3))
 (.rd (some 21) none (.mov (.t 0))
 (.wr false (some 22) none (.bsl false false 44 1 [(.int .i64 0)] 1 [(0, 1, (.t 21))])
 (.wr false (some 23) none (.app 44 1 8 false (.t 20) (.t 22))
 (.wr false none none (.store 1 (.t 3) (.t 23))
 .done)))))
def zq18_3 : AT := (.rd (some 24) none (.load false 1 (.t 1))
 (.rd (some 25) none (.nilc (.t 24))
 (.rd (some 26) none (.faddr 0 (.t 25))
 (.rd (some 27) none (.load false 1 (.t 26))
 (.rd (some 28) none (.mov (.t 0))
 (.rd (some 29) none (.iaddr none 6 (.t 27) (.t 28))
 (.rd (some 30) none (.load true 6 (.t 29))
 (.cl false (some 31) none (.c (.fn (.func 36) [] [])) [(.t 30)]
 (.rd (some 32) none (.len 0 (.t 31))
 (.rd (some 33) none (.mov (.c (.int .i64 0)))
 .done))))))))))
def zq18_4 : AT := (.rd (some 34) none (.bin .lss (.t 33) (.t 32))
 .done)
def zq18_5 : AT := (.rd (some 35) none (.iaddr none 1 (.t 31) (.t 33))
 (.rd (some 36) none (.load false 1 (.t 35))
 (.rd (some 7) none (.mov (.t 36))
 .done)))
def zq18_6 : AT := (.rd (some 37) none (.load false 1 (.t 4))
 (.rd (some 38) none (.mov (.t 7))
 (.cl false (some 39) none (.t 37) [(.t 38)]
 .done)))
def zq18_7 : AT := (.rd (some 40) none (.bin .add (.t 33) (.c (.int .i64 1)))
 (.rd (some 33) none (.mov (.t 40))
 .done))
def term_Graph_Uses_S1 : AF := ⟨41, [],
  (.seq (.seq (.reg zq18_0 [8, 9, 10, 11, 12, 13, 14, 15, 16])
  (.cond (.t 17)
  .ret
  .skip))
  (.seq (.reg zq18_1 [18, 19])
  (.seq (.reg zq18_2 [20, 21, 22, 23])
  (.seq (.reg zq18_3 [24, 25, 26, 27, 28, 29, 30])
  (.block 0 (.loop (.seq (.reg zq18_4 [])
  (.seq (.cond (.t 34)
  .skip
  (.exit 0))
  (.seq (.block 1 (.seq (.reg zq18_5 [35, 36])
  (.reg zq18_6 [37, 38, 39])))
  (.reg zq18_7 [40]))))))))))⟩
abbrev n_term_Graph_Uses_S1 : Nat := 47
/- slices.Sort[[]proofmark/term.ID,proofmark/term.ID] -/
def zq19_0 : AT := (.rd (some 3) none (.mov (.t 0))
 (.rd (some 4) none (.len 0 (.t 3))
 (.rd (some 2) none (.mov (.t 4))
 .done)))
def zq19_1 : AT := (.rd (some 5) none (.mov (.t 0))
 (.rd (some 6) none (.mov (.t 2))
 (.rd (some 7) none (.mov (.t 2))
 (.rd (some 8) none (.conv .u64 (.t 7))
 (.cl false (some 9) none (.c (.fn (.func 51) [] [])) [(.t 8)]
 (.cl false (some 10) none (.c (.fn (.func 75) [] [])) [(.t 5), (.c (.int .i64 0)), (.t 6), (.t 9)]
 .done))))))
def slices_Sort_term_ID_term_ID : AF := ⟨11, [],
  (.seq (.reg zq19_0 [3, 4])
  (.reg zq19_1 [5, 6, 7, 8, 9, 10]))⟩
abbrev n_slices_Sort_term_ID_term_ID : Nat := 48
/- (*proofmark/proofmarkref02.Graph).Uses -/
def zq1a_0 : AT := (.rd (some 4) none (.mov (.c (.lst 0 [] true)))
 .done)
def zq1a_1 : AT := (.rd (some 5) none (.mov (.c (.lst 0 [] true)))
 .done)
def zq1a_2 : AT := (.rd (some 6) none (.mov (.c (.int .i64 0)))
 .done)
def zq1a_3 : AT := (.rd (some 9) none (.mov (.t 6))
 (.rd (some 10) none (.mov (.t 0))
 (.rd (some 11) none (.nilc (.t 10))
 (.rd (some 12) none (.faddr 0 (.t 11))
 (.rd (some 13) none (.load false 1 (.t 12))
 (.rd (some 14) none (.len 0 (.t 13))
 (.rd (some 15) none (.bin .lss (.t 9) (.t 14))
 .done)))))))
def zq1a_4 : AT := (.rd (some 7) none (.mov (.c (.bool false)))
 .done)
def zq1a_5 : AT := (.rd (some 8) none (.mov (.c (.int .i64 0)))
 .done)
def zq1a_6 : AT := (.rd (some 18) none (.mov (.t 8))
 (.rd (some 19) none (.mov (.t 1))
 (.rd (some 20) none (.len 0 (.t 19))
 (.rd (some 21) none (.bin .lss (.t 18) (.t 20))
 .done))))
def zq1a_7 : AT := (.rd (some 24) none (.mov (.t 7))
 (.rd (some 25) none (.mov (.t 24))
 (.rd (some 26) (some (25, false)) (.mov (.t 0))
 (.rd (some 27) (some (25, false)) (.nilc (.t 26))
 (.rd (some 28) (some (25, false)) (.faddr 0 (.t 27))
 (.rd (some 29) (some (25, false)) (.load false 1 (.t 28))
 (.rd (some 30) (some (25, false)) (.len 0 (.t 29))
 (.rd (some 31) (some (25, false)) (.mov (.t 1))
 (.rd (some 32) (some (25, false)) (.mov (.t 8))
 (.rd (some 33) (some (25, false)) (.iaddr none 1 (.t 31) (.t 32))
 (.rd (some 34) (some (25, false)) (.load false 1 (.t 33))
 (.cl false (some 35) (some (25, false)) (.c (.fn (.func 76) [] [])) [(.t 30), (.t 34)]
 (.rd (some 36) (some (25, false)) (.mov (.t 35))
 (.rd (some 37) (some (36, true)) (.mov (.t 0))
 (.rd (some 38) (some (36, true)) (.mov (.t 1))
 (.rd (some 39) (some (36, true)) (.mov (.t 8))
 (.rd (some 40) (some (36, true)) (.iaddr none 1 (.t 38) (.t 39))
 (.rd (some 41) (some (36, true)) (.load false 1 (.t 40))
 (.rd (some 42) (some (36, true)) (.mov (.t 6))
 (.cl false (some 43) (some (36, true)) (.c (.fn (.func 77) [] [])) [(.t 37), (.t 41), (.t 42)]
 (.rd (some 44) (some (25, false)) (.pick (.t 36) (.t 43) (.c (.bool false)))
 (.rd (some 45) none (.pick (.t 25) (.c (.bool true)) (.t 44))
 (.rd (some 7) none (.mov (.t 45))
 .done)))))))))))))))))))))))
def zq1a_8 : AT := (.rd (some 22) none (.mov (.t 8))
 (.rd (some 23) none (.bin .add (.t 22) (.c (.int .i64 1)))
 (.rd (some 8) none (.mov (.t 23))
 .done)))
def zq1a_9 : AT := (.rd (some 46) none (.mov (.t 7))
 .done)
def zq1a_10 : AT := (.rd (some 47) none (.mov (.t 5))
 (.rd (some 48) none (.mov (.t 6))
 (.wr false (some 49) none (.bsl false false 3 1 [(.int .i64 0)] 1 [(0, 1, (.t 48))])
 (.wr false (some 50) none (.app 3 1 8 false (.t 47) (.t 49))
 (.rd (some 5) none (.mov (.t 50))
 .done)))))
def zq1a_11 : AT := (.rd (some 16) none (.mov (.t 6))
 (.rd (some 17) none (.bin .add (.t 16) (.c (.int .i64 1)))
 (.rd (some 6) none (.mov (.t 17))
 .done)))
def zq1a_12 : AT := (.rd (some 51) none (.mov (.t 5))
 (.rd (some 4) none (.mov (.t 51))
 .done))
def proofmarkref02_Graph_Uses : AF := ⟨52, [.tmp 4],
  (.seq (.reg zq1a_0 [])
  (.seq (.reg zq1a_1 [])
  (.seq (.seq (.reg zq1a_2 [])
  (.block 0 (.loop (.seq (.seq (.reg zq1a_3 [9, 10, 11, 12, 13, 14])
  (.cond (.t 15)
  .skip
  (.exit 0)))
  (.seq (.block 1 (.seq (.reg zq1a_4 [])
  (.seq (.seq (.reg zq1a_5 [])
  (.block 2 (.loop (.seq (.seq (.reg zq1a_6 [18, 19, 20])
  (.cond (.t 21)
  .skip
  (.exit 2)))
  (.seq (.block 3 (.reg zq1a_7 [24, 25, 26, 27, 28, 29, 30, 31, 32, 33, 34, 35, 36, 37, 38, 39, 40, 41, 42, 43, 44, 45]))
  (.reg zq1a_8 [22, 23]))))))
  (.seq (.reg zq1a_9 [])
  (.cond (.t 46)
  (.reg zq1a_10 [47, 48, 49, 50])
  .skip)))))
  (.reg zq1a_11 [16, 17]))))))
  (.seq (.reg zq1a_12 [51])
  .ret))))⟩
abbrev n_proofmarkref02_Graph_Uses : Nat := 49
/- slices.pdqsortOrdered[int64] -/
def zq1b_0 : AT := (.rd (some 8) none (.mov (.c (.bool true)))
 .done)
def zq1b_1 : AT := (.rd (some 9) none (.mov (.c (.bool true)))
 .done)
def zq1b_2 : AT := (.rd (some 19) none (.mov (.t 2))
 (.rd (some 20) none (.mov (.t 1))
 (.rd (some 21) none (.bin .sub (.t 19) (.t 20))
 (.rd (some 10) none (.mov (.t 21))
 .done))))
def zq1b_3 : AT := (.rd (some 22) none (.mov (.t 10))
 (.rd (some 23) none (.bin .leq (.t 22) (.c (.int .i64 12)))
 .done))
def zq1b_4 : AT := (.rd (some 24) none (.mov (.t 0))
 (.rd (some 25) none (.mov (.t 1))
 (.rd (some 26) none (.mov (.t 2))
 (.cl false (some 27) none (.c (.fn (.func 78) [] [])) [(.t 24), (.t 25), (.t 26)]
 .done))))
def zq1b_5 : AT := (.rd (some 28) none (.mov (.t 3))
 (.rd (some 29) none (.bin .eql (.t 28) (.c (.int .i64 0)))
 .done))
def zq1b_6 : AT := (.rd (some 30) none (.mov (.t 0))
 (.rd (some 31) none (.mov (.t 1))
 (.rd (some 32) none (.mov (.t 2))
 (.cl false (some 33) none (.c (.fn (.func 79) [] [])) [(.t 30), (.t 31), (.t 32)]
 .done))))
def zq1b_7 : AT := (.rd (some 34) none (.mov (.t 8))
 (.rd (some 35) none (.un .not (.t 34))
 .done))
def zq1b_8 : AT := (.rd (some 36) none (.mov (.t 0))
 (.rd (some 37) none (.mov (.t 1))
 (.rd (some 38) none (.mov (.t 2))
 (.cl false (some 39) none (.c (.fn (.func 80) [] [])) [(.t 36), (.t 37), (.t 38)]
 .done))))
def zq1b_9 : AT := (.rd (some 40) none (.mov (.t 3))
 (.rd (some 41) none (.bin .sub (.t 40) (.c (.int .i64 1)))
 (.rd (some 3) none (.mov (.t 41))
 .done)))
def zq1b_10 : AT := (.rd (some 43) none (.mov (.t 0))
 (.rd (some 44) none (.mov (.t 1))
 (.rd (some 45) none (.mov (.t 2))
 (.cl false (some 46) none (.c (.fn (.func 81) [] [])) [(.t 43), (.t 44), (.t 45)]
 (.rd (some 42) none (.mov (.t 46))
 (.rd (some 47) none (.extr (.t 42) 0)
 (.rd (some 48) none (.extr (.t 42) 1)
 (.rd (some 11) none (.mov (.t 47))
 (.rd (some 12) none (.mov (.t 48))
 .done)))))))))
def zq1b_11 : AT := (.rd (some 49) none (.mov (.t 12))
 (.rd (some 50) none (.bin .eql (.t 49) (.c (.int .i64 2)))
 .done))
def zq1b_12 : AT := (.rd (some 51) none (.mov (.t 0))
 (.rd (some 52) none (.mov (.t 1))
 (.rd (some 53) none (.mov (.t 2))
 (.cl false (some 54) none (.c (.fn (.func 82) [] [])) [(.t 51), (.t 52), (.t 53)]
 .done))))
def zq1b_13 : AT := (.rd (some 55) none (.mov (.t 2))
 (.rd (some 56) none (.bin .sub (.t 55) (.c (.int .i64 1)))
 (.rd (some 57) none (.mov (.t 11))
 (.rd (some 58) none (.mov (.t 1))
 (.rd (some 59) none (.bin .sub (.t 57) (.t 58))
 (.rd (some 60) none (.bin .sub (.t 56) (.t 59))
 (.rd (some 11) none (.mov (.t 60))
 .done)))))))
def zq1b_14 : AT := (.rd (some 12) none (.mov (.c (.int .i64 1)))
 .done)
def zq1b_15 : AT := (.rd (some 61) none (.mov (.t 8))
 (.rd (some 62) none (.mov (.t 61))
 (.rd (some 63) (some (62, true)) (.mov (.t 9))
 (.rd (some 64) none (.pick (.t 62) (.t 63) (.c (.bool false)))
 (.rd (some 65) none (.mov (.t 64))
 (.rd (some 66) (some (65, true)) (.mov (.t 12))
 (.rd (some 67) (some (65, true)) (.bin .eql (.t 66) (.c (.int .i64 1)))
 (.rd (some 68) none (.pick (.t 65) (.t 67) (.c (.bool false)))
 .done))))))))
def zq1b_16 : AT := (.rd (some 69) none (.mov (.t 0))
 (.rd (some 70) none (.mov (.t 1))
 (.rd (some 71) none (.mov (.t 2))
 (.cl false (some 72) none (.c (.fn (.func 83) [] [])) [(.t 69), (.t 70), (.t 71)]
 .done))))
def zq1b_17 : AT := (.rd (some 73) none (.mov (.t 1))
 (.rd (some 74) none (.bin .gtr (.t 73) (.c (.int .i64 0)))
 (.rd (some 75) none (.mov (.t 74))
 (.rd (some 76) (some (75, true)) (.mov (.t 0))
 (.rd (some 77) (some (75, true)) (.mov (.t 1))
 (.rd (some 78) (some (75, true)) (.bin .sub (.t 77) (.c (.int .i64 1)))
 (.rd (some 79) (some (75, true)) (.iaddr none 1 (.t 76) (.t 78))
 (.rd (some 80) (some (75, true)) (.load false 1 (.t 79))
 (.rd (some 81) (some (75, true)) (.mov (.t 0))
 (.rd (some 82) (some (75, true)) (.mov (.t 11))
 (.rd (some 83) (some (75, true)) (.iaddr none 1 (.t 81) (.t 82))
 (.rd (some 84) (some (75, true)) (.load false 1 (.t 83))
 (.cl false (some 85) (some (75, true)) (.c (.fn (.func 84) [] [])) [(.t 80), (.t 84)]
 (.rd (some 86) (some (75, true)) (.un .not (.t 85))
 (.rd (some 87) none (.pick (.t 75) (.t 86) (.c (.bool false)))
 .done)))))))))))))))
def zq1b_18 : AT := (.rd (some 88) none (.mov (.t 0))
 (.rd (some 89) none (.mov (.t 1))
 (.rd (some 90) none (.mov (.t 2))
 (.rd (some 91) none (.mov (.t 11))
 (.cl false (some 92) none (.c (.fn (.func 85) [] [])) [(.t 88), (.t 89), (.t 90), (.t 91)]
 (.rd (some 13) none (.mov (.t 92))
 .done))))))
def zq1b_19 : AT := (.rd (some 93) none (.mov (.t 13))
 (.rd (some 1) none (.mov (.t 93))
 .done))
def zq1b_20 : AT := (.rd (some 95) none (.mov (.t 0))
 (.rd (some 96) none (.mov (.t 1))
 (.rd (some 97) none (.mov (.t 2))
 (.rd (some 98) none (.mov (.t 11))
 (.cl false (some 99) none (.c (.fn (.func 86) [] [])) [(.t 95), (.t 96), (.t 97), (.t 98)]
 (.rd (some 94) none (.mov (.t 99))
 (.rd (some 100) none (.extr (.t 94) 0)
 (.rd (some 101) none (.extr (.t 94) 1)
 (.rd (some 14) none (.mov (.t 100))
 (.rd (some 15) none (.mov (.t 101))
 .done))))))))))
def zq1b_21 : AT := (.rd (some 102) none (.mov (.t 15))
 (.rd (some 9) none (.mov (.t 102))
 .done))
def zq1b_22 : AT := (.rd (some 103) none (.mov (.t 14))
 (.rd (some 104) none (.mov (.t 1))
 (.rd (some 105) none (.bin .sub (.t 103) (.t 104))
 (.rd (some 106) none (.mov (.t 2))
 (.rd (some 107) none (.mov (.t 14))
 (.rd (some 108) none (.bin .sub (.t 106) (.t 107))
 (.rd (some 16) none (.mov (.t 105))
 (.rd (some 17) none (.mov (.t 108))
 .done))))))))
def zq1b_23 : AT := (.rd (some 109) none (.mov (.t 10))
 (.rd (some 110) none (.bin .quo (.t 109) (.c (.int .i64 8)))
 (.rd (some 18) none (.mov (.t 110))
 .done)))
def zq1b_24 : AT := (.rd (some 111) none (.mov (.t 16))
 (.rd (some 112) none (.mov (.t 17))
 (.rd (some 113) none (.bin .lss (.t 111) (.t 112))
 .done)))
def zq1b_25 : AT := (.rd (some 114) none (.mov (.t 16))
 (.rd (some 115) none (.mov (.t 18))
 (.rd (some 116) none (.bin .geq (.t 114) (.t 115))
 (.rd (some 8) none (.mov (.t 116))
 .done))))
def zq1b_26 : AT := (.rd (some 117) none (.mov (.t 0))
 (.rd (some 118) none (.mov (.t 1))
 (.rd (some 119) none (.mov (.t 14))
 (.rd (some 120) none (.mov (.t 3))
 (.cl false (some 121) none (.c (.fn (.func 50) [] [])) [(.t 117), (.t 118), (.t 119), (.t 120)]
 .done)))))
def zq1b_27 : AT := (.rd (some 122) none (.mov (.t 14))
 (.rd (some 123) none (.bin .add (.t 122) (.c (.int .i64 1)))
 (.rd (some 1) none (.mov (.t 123))
 .done)))
def zq1b_28 : AT := (.rd (some 124) none (.mov (.t 17))
 (.rd (some 125) none (.mov (.t 18))
 (.rd (some 126) none (.bin .geq (.t 124) (.t 125))
 (.rd (some 8) none (.mov (.t 126))
 .done))))
def zq1b_29 : AT := (.rd (some 127) none (.mov (.t 0))
 (.rd (some 128) none (.mov (.t 14))
 (.rd (some 129) none (.bin .add (.t 128) (.c (.int .i64 1)))
 (.rd (some 130) none (.mov (.t 2))
 (.rd (some 131) none (.mov (.t 3))
 (.cl false (some 132) none (.c (.fn (.func 50) [] [])) [(.t 127), (.t 129), (.t 130), (.t 131)]
 .done))))))
def zq1b_30 : AT := (.rd (some 133) none (.mov (.t 14))
 (.rd (some 2) none (.mov (.t 133))
 .done))
def slices_pdqsortOrdered_int64 : AF := ⟨134, [],
  (.seq (.reg zq1b_0 [])
  (.seq (.reg zq1b_1 [])
  (.block 0 (.loop (.block 1 (.seq (.reg zq1b_2 [19, 20, 21])
  (.seq (.seq (.reg zq1b_3 [22])
  (.cond (.t 23)
  (.seq (.reg zq1b_4 [24, 25, 26, 27])
  .ret)
  .skip))
  (.seq (.seq (.reg zq1b_5 [28])
  (.cond (.t 29)
  (.seq (.reg zq1b_6 [30, 31, 32, 33])
  .ret)
  .skip))
  (.seq (.seq (.reg zq1b_7 [34])
  (.cond (.t 35)
  (.seq (.reg zq1b_8 [36, 37, 38, 39])
  (.reg zq1b_9 [40, 41]))
  .skip))
  (.seq (.reg zq1b_10 [43, 44, 45, 46, 42, 47, 48])
  (.seq (.seq (.reg zq1b_11 [49])
  (.cond (.t 50)
  (.seq (.reg zq1b_12 [51, 52, 53, 54])
  (.seq (.reg zq1b_13 [55, 56, 57, 58, 59, 60])
  (.reg zq1b_14 [])))
  .skip))
  (.seq (.seq (.reg zq1b_15 [61, 62, 63, 64, 65, 66, 67])
  (.cond (.t 68)
  (.seq (.reg zq1b_16 [69, 70, 71])
  (.cond (.t 72)
  .ret
  .skip))
  .skip))
  (.seq (.seq (.reg zq1b_17 [73, 74, 75, 76, 77, 78, 79, 80, 81, 82, 83, 84, 85, 86])
  (.cond (.t 87)
  (.seq (.reg zq1b_18 [88, 89, 90, 91, 92])
  (.seq (.reg zq1b_19 [93])
  (.exit 1)))
  .skip))
  (.seq (.reg zq1b_20 [95, 96, 97, 98, 99, 94, 100, 101])
  (.seq (.reg zq1b_21 [102])
  (.seq (.reg zq1b_22 [103, 104, 105, 106, 107, 108])
  (.seq (.reg zq1b_23 [109, 110])
  (.seq (.reg zq1b_24 [111, 112])
  (.cond (.t 113)
  (.seq (.reg zq1b_25 [114, 115, 116])
  (.seq (.reg zq1b_26 [117, 118, 119, 120, 121])
  (.reg zq1b_27 [122, 123])))
  (.seq (.reg zq1b_28 [124, 125, 126])
  (.seq (.reg zq1b_29 [127, 128, 129, 130, 131, 132])
  (.reg zq1b_30 [133]))))))))))))))))))))))⟩
abbrev n_slices_pdqsortOrdered_int64 : Nat := 50
/- math/bits.Len -/
def zq1c_0 : AT := (.rd (some 2) none (.mov (.c (.int .i64 0)))
 .done)
def zq1c_1 : AT := (.rd (some 3) none (.mov (.t 0))
 (.rd (some 4) none (.conv .u32 (.t 3))
 (.cl false (some 5) none (.c (.fn (.func 87) [] [])) [(.t 4)]
 (.rd (some 2) none (.mov (.t 5))
 .done))))
def zq1c_2 : AT := (.rd (some 6) none (.mov (.t 0))
 (.cl false (some 7) none (.c (.fn (.func 88) [] [])) [(.t 6)]
 (.rd (some 2) none (.mov (.t 7))
 .done)))
def math_bits_Len : AF := ⟨8, [.tmp 2],
  (.seq (.reg zq1c_0 [])
  (.seq (.cond (.c (.bool false))
  (.seq (.reg zq1c_1 [3, 4, 5])
  .ret)
  .skip)
  (.seq (.reg zq1c_2 [6, 7])
  .ret)))⟩
abbrev n_math_bits_Len : Nat := 51
/- proofmark/term.bare -/
def zq1d_0 : AT := (.wr false (some 1) none (.box 50 (.t 0))
 (.wr false (some 2) none (.new 50 [(.int .u8 0), (.int .i64 0), (.int .i64 0), (.int .u8 0), (.int .i64 0), (.int .i64 0)])
 .done))
def zq1d_1 : AT := (.rd (some 3) none (.faddr 0 (.t 1))
 (.rd (some 4) none (.load false 1 (.t 3))
 .done))
def zq1d_2 : AT := (.rd (some 6) none (.bin .eql (.t 4) (.c (.int .u8 1)))
 (.rd (some 5) none (.mov (.t 6))
 .done))
def zq1d_3 : AT := (.rd (some 7) none (.bin .eql (.t 4) (.c (.int .u8 2)))
 (.rd (some 5) none (.mov (.t 7))
 .done))
def zq1d_4 : AT := (.rd (some 8) none (.faddr 1 (.t 1))
 (.wr false none none (.store 1 (.t 8) (.c (.int .i64 0)))
 .done))
def zq1d_5 : AT := (.rd (some 10) none (.bin .eql (.t 4) (.c (.int .u8 3)))
 (.rd (some 9) none (.mov (.t 10))
 .done))
def zq1d_6 : AT := (.rd (some 11) none (.faddr 1 (.t 1))
 (.wr false none none (.store 1 (.t 11) (.c (.int .i64 0)))
 (.rd (some 12) none (.faddr 2 (.t 1))
 (.wr false none none (.store 1 (.t 12) (.c (.int .i64 0)))
 (.rd (some 13) none (.faddr 5 (.t 1))
 (.wr false none none (.store 1 (.t 13) (.c (.int .i64 0)))
 .done))))))
def zq1d_7 : AT := (.rd (some 15) none (.bin .eql (.t 4) (.c (.int .u8 4)))
 (.rd (some 14) none (.mov (.t 15))
 .done))
def zq1d_8 : AT := (.rd (some 16) none (.faddr 3 (.t 1))
 (.wr false none none (.store 1 (.t 16) (.c (.int .u8 0)))
 (.rd (some 17) none (.faddr 4 (.t 1))
 (.wr false none none (.store 1 (.t 17) (.c (.int .i64 0)))
 (.rd (some 18) none (.faddr 5 (.t 1))
 (.wr false none none (.store 1 (.t 18) (.c (.int .i64 0)))
 .done))))))
def zq1d_9 : AT := (.rd (some 19) none (.faddr 0 (.t 1))
 (.wr false none none (.store 1 (.t 19) (.c (.int .u8 0)))
 .done))
def zq1d_10 : AT := (.rd (some 20) none (.load true 6 (.t 1))
 (.wr false none none (.store 6 (.t 2) (.t 20))
 .done))
def term_bare : AF := ⟨21, [.cell 2 true 6],
  (.seq (.reg zq1d_0 [])
  (.seq (.seq (.reg zq1d_1 [3])
  (.block 0 (.seq (.seq (.reg zq1d_2 [6])
  (.cond (.t 5)
  .skip
  (.reg zq1d_3 [7])))
  (.cond (.t 5)
  (.reg zq1d_4 [8])
  (.seq (.reg zq1d_5 [10])
  (.cond (.t 9)
  (.reg zq1d_6 [11, 12, 13])
  (.seq (.reg zq1d_7 [15])
  (.cond (.t 14)
  (.reg zq1d_8 [16, 17, 18])
  .skip))))))))
  (.seq (.reg zq1d_9 [19])
  (.seq (.reg zq1d_10 [20])
  .ret))))⟩
abbrev n_term_bare : Nat := 52
/- strconv.FormatInt -/
def zq1e_0 : AT := (.rd (some 4) none (.mov (.c (.str [])))
 .done)
def zq1e_1 : AT := (.rd (some 5) none (.mov (.t 0))
 (.rd (some 6) none (.mov (.t 1))
 (.cl false (some 7) none (.c (.fn (.func 89) [] [])) [(.t 5), (.t 6)]
 (.rd (some 4) none (.mov (.t 7))
 .done))))
def strconv_FormatInt : AF := ⟨8, [.tmp 4],
  (.seq (.reg zq1e_0 [])
  (.seq (.reg zq1e_1 [5, 6, 7])
  .ret))⟩
abbrev n_strconv_FormatInt : Nat := 53
/- strconv.Itoa -/
def zq1f_0 : AT := (.rd (some 2) none (.mov (.c (.str [])))
 .done)
def zq1f_1 : AT := (.rd (some 3) none (.mov (.t 0))
 (.cl false (some 4) none (.c (.fn (.func 90) [] [])) [(.t 3)]
 (.rd (some 2) none (.mov (.t 4))
 .done)))
def strconv_Itoa : AF := ⟨5, [.tmp 2],
  (.seq (.reg zq1f_0 [])
  (.seq (.reg zq1f_1 [3, 4])
  .ret))⟩
abbrev n_strconv_Itoa : Nat := 54
/- proofmark/term.sign -/
def zq1g_0 : AT := (.rd (some 2) none (.mov (.c (.str [])))
 .done)
def zq1g_1 : AT := (.rd (some 3) none (.build (List.replicate 17 [(.str [])]).flatten [(0, 1, (.c (.str []))), (1, 1, (.c (.str [43]))), (2, 1, (.c (.str [45]))), (3, 1, (.c (.str [42]))), (4, 1, (.c (.str [47]))), (5, 1, (.c (.str [37]))), (6, 1, (.c (.str [47, 117]))), (7, 1, (.c (.str [37, 117]))), (8, 1, (.c (.str [38]))), (9, 1, (.c (.str [124]))), (10, 1, (.c (.str [94]))), (11, 1, (.c (.str [60, 60]))), (12, 1, (.c (.str [62, 62, 117]))), (13, 1, (.c (.str [62, 62]))), (14, 1, (.c (.str [60]))), (15, 1, (.c (.str [60, 117]))), (16, 1, (.c (.str [61, 61])))])
 (.rd (some 4) none (.mov (.t 0))
 (.rd (some 5) none (.aidx false 1 17 (.t 3) (.t 4))
 (.rd (some 2) none (.mov (.t 5))
 .done))))
def term_sign : AF := ⟨6, [.tmp 2],
  (.seq (.reg zq1g_0 [])
  (.seq (.reg zq1g_1 [3, 4, 5])
  .ret))⟩
abbrev n_term_sign : Nat := 55
/- proofmark/proofmarkref01.divide -/
def zq1h_0 : AT := (.rd (some 4) none (.mov (.c (.int .i64 0)))
 (.rd (some 5) none (.mov (.c (.int .i64 0)))
 .done))
def zq1h_1 : AT := (.rd (some 6) none (.mov (.c (.int .u64 0)))
 .done)
def zq1h_2 : AT := (.rd (some 7) none (.mov (.c (.int .i64 0)))
 .done)
def zq1h_3 : AT := (.rd (some 8) none (.mov (.c (.int .i64 63)))
 .done)
def zq1h_4 : AT := (.rd (some 10) none (.mov (.t 8))
 (.rd (some 11) none (.bin .geq (.t 10) (.c (.int .i64 0)))
 .done))
def zq1h_5 : AT := (.rd (some 14) none (.mov (.t 7))
 (.cl false (some 15) none (.c (.fn (.func 43) [] [])) [(.t 14), (.c (.int .i64 63))]
 (.rd (some 9) none (.mov (.t 15))
 .done)))
def zq1h_6 : AT := (.rd (some 16) none (.mov (.t 7))
 (.rd (some 17) none (.conv .u64 (.t 16))
 (.rd (some 18) none (.bin .shl (.t 17) (.c (.int .u64 1)))
 (.rd (some 19) none (.mov (.t 0))
 (.rd (some 20) none (.mov (.t 8))
 (.cl false (some 21) none (.c (.fn (.func 43) [] [])) [(.t 19), (.t 20)]
 (.rd (some 22) none (.bin .or (.t 18) (.t 21))
 (.rd (some 23) none (.conv .i64 (.t 22))
 (.rd (some 7) none (.mov (.t 23))
 .done)))))))))
def zq1h_7 : AT := (.rd (some 24) none (.mov (.t 9))
 (.rd (some 25) none (.bin .eql (.t 24) (.c (.int .u64 1)))
 (.rd (some 26) none (.mov (.t 25))
 (.rd (some 27) (some (26, false)) (.mov (.t 7))
 (.rd (some 28) (some (26, false)) (.mov (.t 1))
 (.cl false (some 29) (some (26, false)) (.c (.fn (.func 45) [] [])) [(.t 27), (.t 28)]
 (.rd (some 30) (some (26, false)) (.un .not (.t 29))
 (.rd (some 31) none (.pick (.t 26) (.c (.bool true)) (.t 30))
 .done))))))))
def zq1h_8 : AT := (.rd (some 32) none (.mov (.t 7))
 (.rd (some 33) none (.mov (.t 1))
 (.cl false (some 34) none (.c (.fn (.func 39) [] [])) [(.t 33)]
 (.cl false (some 35) none (.c (.fn (.func 38) [] [])) [(.t 32), (.t 34)]
 (.rd (some 7) none (.mov (.t 35))
 .done)))))
def zq1h_9 : AT := (.rd (some 36) none (.mov (.t 6))
 (.rd (some 37) none (.mov (.t 8))
 (.rd (some 38) none (.bin .shl (.c (.int .u64 1)) (.t 37))
 (.rd (some 39) none (.bin .or (.t 36) (.t 38))
 (.rd (some 6) none (.mov (.t 39))
 .done)))))
def zq1h_10 : AT := (.rd (some 12) none (.mov (.t 8))
 (.rd (some 13) none (.bin .sub (.t 12) (.c (.int .i64 1)))
 (.rd (some 8) none (.mov (.t 13))
 .done)))
def zq1h_11 : AT := (.rd (some 40) none (.mov (.t 6))
 (.rd (some 41) none (.conv .i64 (.t 40))
 (.rd (some 42) none (.mov (.t 7))
 (.rd (some 4) none (.mov (.t 41))
 (.rd (some 5) none (.mov (.t 42))
 .done)))))
def proofmarkref01_divide : AF := ⟨43, [.tmp 4, .tmp 5],
  (.seq (.reg zq1h_0 [])
  (.seq (.reg zq1h_1 [])
  (.seq (.reg zq1h_2 [])
  (.seq (.seq (.reg zq1h_3 [])
  (.block 0 (.loop (.seq (.seq (.reg zq1h_4 [10])
  (.cond (.t 11)
  .skip
  (.exit 0)))
  (.seq (.block 1 (.seq (.reg zq1h_5 [14, 15])
  (.seq (.reg zq1h_6 [16, 17, 18, 19, 20, 21, 22, 23])
  (.seq (.reg zq1h_7 [24, 25, 26, 27, 28, 29, 30])
  (.cond (.t 31)
  (.seq (.reg zq1h_8 [32, 33, 34, 35])
  (.reg zq1h_9 [36, 37, 38, 39]))
  .skip)))))
  (.reg zq1h_10 [12, 13]))))))
  (.seq (.reg zq1h_11 [40, 41, 42])
  .ret)))))⟩
abbrev n_proofmarkref01_divide : Nat := 56
/- proofmark/proofmarkref01.signed -/
def zq1i_0 : AT := (.rd (some 4) none (.mov (.c (.int .i64 0)))
 (.rd (some 5) none (.mov (.c (.int .i64 0)))
 .done))
def zq1i_1 : AT := (.rd (some 10) none (.mov (.t 0))
 (.rd (some 11) none (.mov (.t 1))
 (.rd (some 6) none (.mov (.t 10))
 (.rd (some 7) none (.mov (.t 11))
 .done))))
def zq1i_2 : AT := (.rd (some 12) none (.mov (.t 0))
 (.rd (some 13) none (.bin .lss (.t 12) (.c (.int .i64 0)))
 .done))
def zq1i_3 : AT := (.rd (some 14) none (.mov (.t 0))
 (.cl false (some 15) none (.c (.fn (.func 39) [] [])) [(.t 14)]
 (.rd (some 6) none (.mov (.t 15))
 .done)))
def zq1i_4 : AT := (.rd (some 16) none (.mov (.t 1))
 (.rd (some 17) none (.bin .lss (.t 16) (.c (.int .i64 0)))
 .done))
def zq1i_5 : AT := (.rd (some 18) none (.mov (.t 1))
 (.cl false (some 19) none (.c (.fn (.func 39) [] [])) [(.t 18)]
 (.rd (some 7) none (.mov (.t 19))
 .done)))
def zq1i_6 : AT := (.rd (some 21) none (.mov (.t 6))
 (.rd (some 22) none (.mov (.t 7))
 (.cl false (some 23) none (.c (.fn (.func 56) [] [])) [(.t 21), (.t 22)]
 (.rd (some 20) none (.mov (.t 23))
 (.rd (some 24) none (.extr (.t 20) 0)
 (.rd (some 25) none (.extr (.t 20) 1)
 (.rd (some 8) none (.mov (.t 24))
 (.rd (some 9) none (.mov (.t 25))
 .done))))))))
def zq1i_7 : AT := (.rd (some 26) none (.mov (.t 0))
 (.rd (some 27) none (.bin .lss (.t 26) (.c (.int .i64 0)))
 (.rd (some 28) none (.mov (.t 1))
 (.rd (some 29) none (.bin .lss (.t 28) (.c (.int .i64 0)))
 (.rd (some 30) none (.eqb true (.t 27) (.t 29))
 .done)))))
def zq1i_8 : AT := (.rd (some 31) none (.mov (.t 8))
 (.cl false (some 32) none (.c (.fn (.func 39) [] [])) [(.t 31)]
 (.rd (some 8) none (.mov (.t 32))
 .done)))
def zq1i_9 : AT := (.rd (some 33) none (.mov (.t 0))
 (.rd (some 34) none (.bin .lss (.t 33) (.c (.int .i64 0)))
 .done))
def zq1i_10 : AT := (.rd (some 35) none (.mov (.t 9))
 (.cl false (some 36) none (.c (.fn (.func 39) [] [])) [(.t 35)]
 (.rd (some 9) none (.mov (.t 36))
 .done)))
def zq1i_11 : AT := (.rd (some 37) none (.mov (.t 8))
 (.rd (some 38) none (.mov (.t 9))
 (.rd (some 4) none (.mov (.t 37))
 (.rd (some 5) none (.mov (.t 38))
 .done))))
def proofmarkref01_signed : AF := ⟨39, [.tmp 4, .tmp 5],
  (.seq (.reg zq1i_0 [])
  (.seq (.reg zq1i_1 [10, 11])
  (.seq (.seq (.reg zq1i_2 [12])
  (.cond (.t 13)
  (.reg zq1i_3 [14, 15])
  .skip))
  (.seq (.seq (.reg zq1i_4 [16])
  (.cond (.t 17)
  (.reg zq1i_5 [18, 19])
  .skip))
  (.seq (.reg zq1i_6 [21, 22, 23, 20, 24, 25])
  (.seq (.seq (.reg zq1i_7 [26, 27, 28, 29])
  (.cond (.t 30)
  (.reg zq1i_8 [31, 32])
  .skip))
  (.seq (.seq (.reg zq1i_9 [33])
  (.cond (.t 34)
  (.reg zq1i_10 [35, 36])
  .skip))
  (.seq (.reg zq1i_11 [37, 38])
  .ret))))))))⟩
abbrev n_proofmarkref01_signed : Nat := 57
/- proofmark/word.of$1 -/
def zq1j_0 : AT := (.rd (some 4) none (.mov (.c (.int .i64 0)))
 .done)
def zq1j_1 : AT := (.rd (some 5) none (.mov (.t 0))
 (.rd (some 6) none (.mov (.t 1))
 (.rd (some 7) none (.bin .add (.t 5) (.t 6))
 (.rd (some 4) none (.mov (.t 7))
 .done))))
def word_of_S1 : AF := ⟨8, [.tmp 4],
  (.seq (.reg zq1j_0 [])
  (.seq (.reg zq1j_1 [5, 6, 7])
  .ret))⟩
abbrev n_word_of_S1 : Nat := 58
/- proofmark/word.of$2 -/
def zq1k_0 : AT := (.rd (some 4) none (.mov (.c (.int .i64 0)))
 .done)
def zq1k_1 : AT := (.rd (some 5) none (.mov (.t 0))
 (.rd (some 6) none (.mov (.t 1))
 (.rd (some 7) none (.bin .sub (.t 5) (.t 6))
 (.rd (some 4) none (.mov (.t 7))
 .done))))
def word_of_S2 : AF := ⟨8, [.tmp 4],
  (.seq (.reg zq1k_0 [])
  (.seq (.reg zq1k_1 [5, 6, 7])
  .ret))⟩
abbrev n_word_of_S2 : Nat := 59
/- proofmark/word.of$3 -/
def zq1l_0 : AT := (.rd (some 4) none (.mov (.c (.int .i64 0)))
 .done)
def zq1l_1 : AT := (.rd (some 5) none (.mov (.t 0))
 (.rd (some 6) none (.mov (.t 1))
 (.rd (some 7) none (.bin .mul (.t 5) (.t 6))
 (.rd (some 4) none (.mov (.t 7))
 .done))))
def word_of_S3 : AF := ⟨8, [.tmp 4],
  (.seq (.reg zq1l_0 [])
  (.seq (.reg zq1l_1 [5, 6, 7])
  .ret))⟩
abbrev n_word_of_S3 : Nat := 60
/- proofmark/word.div -/
def zq1m_0 : AT := (.rd (some 4) none (.mov (.c (.int .i64 0)))
 .done)
def zq1m_1 : AT := (.rd (some 5) none (.mov (.t 1))
 .done)
def zq1m_2 : AT := (.rd (some 7) none (.bin .eql (.t 5) (.c (.int .i64 0)))
 (.rd (some 6) none (.mov (.t 7))
 .done))
def zq1m_3 : AT := (.rd (some 4) none (.mov (.c (.int .i64 (-1))))
 .done)
def zq1m_4 : AT := (.rd (some 9) none (.bin .eql (.t 5) (.c (.int .i64 (-1))))
 (.rd (some 8) none (.mov (.t 9))
 .done))
def zq1m_5 : AT := (.rd (some 10) none (.mov (.t 0))
 (.rd (some 11) none (.un .neg (.t 10))
 (.rd (some 4) none (.mov (.t 11))
 .done)))
def zq1m_6 : AT := (.rd (some 12) none (.mov (.t 0))
 (.rd (some 13) none (.mov (.t 1))
 (.rd (some 14) none (.bin .quo (.t 12) (.t 13))
 (.rd (some 4) none (.mov (.t 14))
 .done))))
def word_div : AF := ⟨15, [.tmp 4],
  (.seq (.reg zq1m_0 [])
  (.seq (.seq (.reg zq1m_1 [])
  (.block 0 (.seq (.reg zq1m_2 [7])
  (.cond (.t 6)
  (.seq (.reg zq1m_3 [])
  .ret)
  (.seq (.reg zq1m_4 [9])
  (.cond (.t 8)
  (.seq (.reg zq1m_5 [10, 11])
  .ret)
  .skip))))))
  (.seq (.reg zq1m_6 [12, 13, 14])
  .ret)))⟩
abbrev n_word_div : Nat := 61
/- proofmark/word.rem -/
def zq1n_0 : AT := (.rd (some 4) none (.mov (.c (.int .i64 0)))
 .done)
def zq1n_1 : AT := (.rd (some 5) none (.mov (.t 1))
 .done)
def zq1n_2 : AT := (.rd (some 7) none (.bin .eql (.t 5) (.c (.int .i64 0)))
 (.rd (some 6) none (.mov (.t 7))
 .done))
def zq1n_3 : AT := (.rd (some 8) none (.mov (.t 0))
 (.rd (some 4) none (.mov (.t 8))
 .done))
def zq1n_4 : AT := (.rd (some 10) none (.bin .eql (.t 5) (.c (.int .i64 (-1))))
 (.rd (some 9) none (.mov (.t 10))
 .done))
def zq1n_5 : AT := (.rd (some 4) none (.mov (.c (.int .i64 0)))
 .done)
def zq1n_6 : AT := (.rd (some 11) none (.mov (.t 0))
 (.rd (some 12) none (.mov (.t 1))
 (.rd (some 13) none (.bin .rem (.t 11) (.t 12))
 (.rd (some 4) none (.mov (.t 13))
 .done))))
def word_rem : AF := ⟨14, [.tmp 4],
  (.seq (.reg zq1n_0 [])
  (.seq (.seq (.reg zq1n_1 [])
  (.block 0 (.seq (.reg zq1n_2 [7])
  (.cond (.t 6)
  (.seq (.reg zq1n_3 [8])
  .ret)
  (.seq (.reg zq1n_4 [10])
  (.cond (.t 9)
  (.seq (.reg zq1n_5 [])
  .ret)
  .skip))))))
  (.seq (.reg zq1n_6 [11, 12, 13])
  .ret)))⟩
abbrev n_word_rem : Nat := 62
/- proofmark/word.divU -/
def zq1o_0 : AT := (.rd (some 4) none (.mov (.c (.int .i64 0)))
 .done)
def zq1o_1 : AT := (.rd (some 5) none (.mov (.t 1))
 (.rd (some 6) none (.bin .eql (.t 5) (.c (.int .i64 0)))
 .done))
def zq1o_2 : AT := (.rd (some 4) none (.mov (.c (.int .i64 (-1))))
 .done)
def zq1o_3 : AT := (.rd (some 7) none (.mov (.t 0))
 (.rd (some 8) none (.conv .u64 (.t 7))
 (.rd (some 9) none (.mov (.t 1))
 (.rd (some 10) none (.conv .u64 (.t 9))
 (.rd (some 11) none (.bin .quo (.t 8) (.t 10))
 (.rd (some 12) none (.conv .i64 (.t 11))
 (.rd (some 4) none (.mov (.t 12))
 .done)))))))
def word_divU : AF := ⟨13, [.tmp 4],
  (.seq (.reg zq1o_0 [])
  (.seq (.seq (.reg zq1o_1 [5])
  (.cond (.t 6)
  (.seq (.reg zq1o_2 [])
  .ret)
  .skip))
  (.seq (.reg zq1o_3 [7, 8, 9, 10, 11, 12])
  .ret)))⟩
abbrev n_word_divU : Nat := 63
/- proofmark/word.remU -/
def zq1p_0 : AT := (.rd (some 4) none (.mov (.c (.int .i64 0)))
 .done)
def zq1p_1 : AT := (.rd (some 5) none (.mov (.t 1))
 (.rd (some 6) none (.bin .eql (.t 5) (.c (.int .i64 0)))
 .done))
def zq1p_2 : AT := (.rd (some 7) none (.mov (.t 0))
 (.rd (some 4) none (.mov (.t 7))
 .done))
def zq1p_3 : AT := (.rd (some 8) none (.mov (.t 0))
 (.rd (some 9) none (.conv .u64 (.t 8))
 (.rd (some 10) none (.mov (.t 1))
 (.rd (some 11) none (.conv .u64 (.t 10))
 (.rd (some 12) none (.bin .rem (.t 9) (.t 11))
 (.rd (some 13) none (.conv .i64 (.t 12))
 (.rd (some 4) none (.mov (.t 13))
 .done)))))))
def word_remU : AF := ⟨14, [.tmp 4],
  (.seq (.reg zq1p_0 [])
  (.seq (.seq (.reg zq1p_1 [5])
  (.cond (.t 6)
  (.seq (.reg zq1p_2 [7])
  .ret)
  .skip))
  (.seq (.reg zq1p_3 [8, 9, 10, 11, 12, 13])
  .ret)))⟩
abbrev n_word_remU : Nat := 64
/- proofmark/word.of$4 -/
def zq1q_0 : AT := (.rd (some 4) none (.mov (.c (.int .i64 0)))
 .done)
def zq1q_1 : AT := (.rd (some 5) none (.mov (.t 0))
 (.rd (some 6) none (.mov (.t 1))
 (.rd (some 7) none (.bin .and (.t 5) (.t 6))
 (.rd (some 4) none (.mov (.t 7))
 .done))))
def word_of_S4 : AF := ⟨8, [.tmp 4],
  (.seq (.reg zq1q_0 [])
  (.seq (.reg zq1q_1 [5, 6, 7])
  .ret))⟩
abbrev n_word_of_S4 : Nat := 65
/- proofmark/word.of$5 -/
def zq1r_0 : AT := (.rd (some 4) none (.mov (.c (.int .i64 0)))
 .done)
def zq1r_1 : AT := (.rd (some 5) none (.mov (.t 0))
 (.rd (some 6) none (.mov (.t 1))
 (.rd (some 7) none (.bin .or (.t 5) (.t 6))
 (.rd (some 4) none (.mov (.t 7))
 .done))))
def word_of_S5 : AF := ⟨8, [.tmp 4],
  (.seq (.reg zq1r_0 [])
  (.seq (.reg zq1r_1 [5, 6, 7])
  .ret))⟩
abbrev n_word_of_S5 : Nat := 66
/- proofmark/word.of$6 -/
def zq1s_0 : AT := (.rd (some 4) none (.mov (.c (.int .i64 0)))
 .done)
def zq1s_1 : AT := (.rd (some 5) none (.mov (.t 0))
 (.rd (some 6) none (.mov (.t 1))
 (.rd (some 7) none (.bin .xor (.t 5) (.t 6))
 (.rd (some 4) none (.mov (.t 7))
 .done))))
def word_of_S6 : AF := ⟨8, [.tmp 4],
  (.seq (.reg zq1s_0 [])
  (.seq (.reg zq1s_1 [5, 6, 7])
  .ret))⟩
abbrev n_word_of_S6 : Nat := 67
/- proofmark/word.of$7 -/
def zq1t_0 : AT := (.rd (some 4) none (.mov (.c (.int .i64 0)))
 .done)
def zq1t_1 : AT := (.rd (some 5) none (.mov (.t 0))
 (.rd (some 6) none (.mov (.t 1))
 (.rd (some 7) none (.bin .and (.t 6) (.c (.int .i64 63)))
 (.rd (some 8) none (.bin .shl (.t 5) (.t 7))
 (.rd (some 4) none (.mov (.t 8))
 .done)))))
def word_of_S7 : AF := ⟨9, [.tmp 4],
  (.seq (.reg zq1t_0 [])
  (.seq (.reg zq1t_1 [5, 6, 7, 8])
  .ret))⟩
abbrev n_word_of_S7 : Nat := 68
/- proofmark/word.of$8 -/
def zq1u_0 : AT := (.rd (some 4) none (.mov (.c (.int .i64 0)))
 .done)
def zq1u_1 : AT := (.rd (some 5) none (.mov (.t 0))
 (.rd (some 6) none (.conv .u64 (.t 5))
 (.rd (some 7) none (.mov (.t 1))
 (.rd (some 8) none (.bin .and (.t 7) (.c (.int .i64 63)))
 (.rd (some 9) none (.bin .shr (.t 6) (.t 8))
 (.rd (some 10) none (.conv .i64 (.t 9))
 (.rd (some 4) none (.mov (.t 10))
 .done)))))))
def word_of_S8 : AF := ⟨11, [.tmp 4],
  (.seq (.reg zq1u_0 [])
  (.seq (.reg zq1u_1 [5, 6, 7, 8, 9, 10])
  .ret))⟩
abbrev n_word_of_S8 : Nat := 69
/- proofmark/word.of$9 -/
def zq1v_0 : AT := (.rd (some 4) none (.mov (.c (.int .i64 0)))
 .done)
def zq1v_1 : AT := (.rd (some 5) none (.mov (.t 0))
 (.rd (some 6) none (.mov (.t 1))
 (.rd (some 7) none (.bin .and (.t 6) (.c (.int .i64 63)))
 (.rd (some 8) none (.bin .shr (.t 5) (.t 7))
 (.rd (some 4) none (.mov (.t 8))
 .done)))))
def word_of_S9 : AF := ⟨9, [.tmp 4],
  (.seq (.reg zq1v_0 [])
  (.seq (.reg zq1v_1 [5, 6, 7, 8])
  .ret))⟩
abbrev n_word_of_S9 : Nat := 70
/- proofmark/word.of$10 -/
def zq1w_0 : AT := (.rd (some 4) none (.mov (.c (.int .i64 0)))
 .done)
def zq1w_1 : AT := (.rd (some 5) none (.mov (.t 0))
 (.rd (some 6) none (.mov (.t 1))
 (.rd (some 7) none (.bin .lss (.t 5) (.t 6))
 (.cl false (some 8) none (.c (.fn (.func 72) [] [])) [(.t 7)]
 (.rd (some 4) none (.mov (.t 8))
 .done)))))
def word_of_S10 : AF := ⟨9, [.tmp 4],
  (.seq (.reg zq1w_0 [])
  (.seq (.reg zq1w_1 [5, 6, 7, 8])
  .ret))⟩
abbrev n_word_of_S10 : Nat := 71
/- proofmark/word.one -/
def zq1x_0 : AT := (.rd (some 2) none (.mov (.c (.int .i64 0)))
 .done)
def zq1x_1 : AT := (.rd (some 3) none (.mov (.t 0))
 .done)
def zq1x_2 : AT := (.rd (some 2) none (.mov (.c (.int .i64 1)))
 .done)
def zq1x_3 : AT := (.rd (some 2) none (.mov (.c (.int .i64 0)))
 .done)
def word_one : AF := ⟨4, [.tmp 2],
  (.seq (.reg zq1x_0 [])
  (.seq (.seq (.reg zq1x_1 [])
  (.cond (.t 3)
  (.seq (.reg zq1x_2 [])
  .ret)
  .skip))
  (.seq (.reg zq1x_3 [])
  .ret)))⟩
abbrev n_word_one : Nat := 72
/- proofmark/word.of$11 -/
def zq1y_0 : AT := (.rd (some 4) none (.mov (.c (.int .i64 0)))
 .done)
def zq1y_1 : AT := (.rd (some 5) none (.mov (.t 0))
 (.rd (some 6) none (.conv .u64 (.t 5))
 (.rd (some 7) none (.mov (.t 1))
 (.rd (some 8) none (.conv .u64 (.t 7))
 (.rd (some 9) none (.bin .lss (.t 6) (.t 8))
 (.cl false (some 10) none (.c (.fn (.func 72) [] [])) [(.t 9)]
 (.rd (some 4) none (.mov (.t 10))
 .done)))))))
def word_of_S11 : AF := ⟨11, [.tmp 4],
  (.seq (.reg zq1y_0 [])
  (.seq (.reg zq1y_1 [5, 6, 7, 8, 9, 10])
  .ret))⟩
abbrev n_word_of_S11 : Nat := 73
/- proofmark/word.of$12 -/
def zq1z_0 : AT := (.rd (some 4) none (.mov (.c (.int .i64 0)))
 .done)
def zq1z_1 : AT := (.rd (some 5) none (.mov (.t 0))
 (.rd (some 6) none (.mov (.t 1))
 (.rd (some 7) none (.bin .eql (.t 5) (.t 6))
 (.cl false (some 8) none (.c (.fn (.func 72) [] [])) [(.t 7)]
 (.rd (some 4) none (.mov (.t 8))
 .done)))))
def word_of_S12 : AF := ⟨9, [.tmp 4],
  (.seq (.reg zq1z_0 [])
  (.seq (.reg zq1z_1 [5, 6, 7, 8])
  .ret))⟩
abbrev n_word_of_S12 : Nat := 74
/- slices.pdqsortOrdered[proofmark/term.ID] -/
def zq20_0 : AT := (.rd (some 8) none (.mov (.c (.bool true)))
 .done)
def zq20_1 : AT := (.rd (some 9) none (.mov (.c (.bool true)))
 .done)
def zq20_2 : AT := (.rd (some 19) none (.mov (.t 2))
 (.rd (some 20) none (.mov (.t 1))
 (.rd (some 21) none (.bin .sub (.t 19) (.t 20))
 (.rd (some 10) none (.mov (.t 21))
 .done))))
def zq20_3 : AT := (.rd (some 22) none (.mov (.t 10))
 (.rd (some 23) none (.bin .leq (.t 22) (.c (.int .i64 12)))
 .done))
def zq20_4 : AT := (.rd (some 24) none (.mov (.t 0))
 (.rd (some 25) none (.mov (.t 1))
 (.rd (some 26) none (.mov (.t 2))
 (.cl false (some 27) none (.c (.fn (.func 91) [] [])) [(.t 24), (.t 25), (.t 26)]
 .done))))
def zq20_5 : AT := (.rd (some 28) none (.mov (.t 3))
 (.rd (some 29) none (.bin .eql (.t 28) (.c (.int .i64 0)))
 .done))
def zq20_6 : AT := (.rd (some 30) none (.mov (.t 0))
 (.rd (some 31) none (.mov (.t 1))
 (.rd (some 32) none (.mov (.t 2))
 (.cl false (some 33) none (.c (.fn (.func 92) [] [])) [(.t 30), (.t 31), (.t 32)]
 .done))))
def zq20_7 : AT := (.rd (some 34) none (.mov (.t 8))
 (.rd (some 35) none (.un .not (.t 34))
 .done))
def zq20_8 : AT := (.rd (some 36) none (.mov (.t 0))
 (.rd (some 37) none (.mov (.t 1))
 (.rd (some 38) none (.mov (.t 2))
 (.cl false (some 39) none (.c (.fn (.func 93) [] [])) [(.t 36), (.t 37), (.t 38)]
 .done))))
def zq20_9 : AT := (.rd (some 40) none (.mov (.t 3))
 (.rd (some 41) none (.bin .sub (.t 40) (.c (.int .i64 1)))
 (.rd (some 3) none (.mov (.t 41))
 .done)))
def zq20_10 : AT := (.rd (some 43) none (.mov (.t 0))
 (.rd (some 44) none (.mov (.t 1))
 (.rd (some 45) none (.mov (.t 2))
 (.cl false (some 46) none (.c (.fn (.func 94) [] [])) [(.t 43), (.t 44), (.t 45)]
 (.rd (some 42) none (.mov (.t 46))
 (.rd (some 47) none (.extr (.t 42) 0)
 (.rd (some 48) none (.extr (.t 42) 1)
 (.rd (some 11) none (.mov (.t 47))
 (.rd (some 12) none (.mov (.t 48))
 .done)))))))))
def zq20_11 : AT := (.rd (some 49) none (.mov (.t 12))
 (.rd (some 50) none (.bin .eql (.t 49) (.c (.int .i64 2)))
 .done))
def zq20_12 : AT := (.rd (some 51) none (.mov (.t 0))
 (.rd (some 52) none (.mov (.t 1))
 (.rd (some 53) none (.mov (.t 2))
 (.cl false (some 54) none (.c (.fn (.func 95) [] [])) [(.t 51), (.t 52), (.t 53)]
 .done))))
def zq20_13 : AT := (.rd (some 55) none (.mov (.t 2))
 (.rd (some 56) none (.bin .sub (.t 55) (.c (.int .i64 1)))
 (.rd (some 57) none (.mov (.t 11))
 (.rd (some 58) none (.mov (.t 1))
 (.rd (some 59) none (.bin .sub (.t 57) (.t 58))
 (.rd (some 60) none (.bin .sub (.t 56) (.t 59))
 (.rd (some 11) none (.mov (.t 60))
 .done)))))))
def zq20_14 : AT := (.rd (some 12) none (.mov (.c (.int .i64 1)))
 .done)
def zq20_15 : AT := (.rd (some 61) none (.mov (.t 8))
 (.rd (some 62) none (.mov (.t 61))
 (.rd (some 63) (some (62, true)) (.mov (.t 9))
 (.rd (some 64) none (.pick (.t 62) (.t 63) (.c (.bool false)))
 (.rd (some 65) none (.mov (.t 64))
 (.rd (some 66) (some (65, true)) (.mov (.t 12))
 (.rd (some 67) (some (65, true)) (.bin .eql (.t 66) (.c (.int .i64 1)))
 (.rd (some 68) none (.pick (.t 65) (.t 67) (.c (.bool false)))
 .done))))))))
def zq20_16 : AT := (.rd (some 69) none (.mov (.t 0))
 (.rd (some 70) none (.mov (.t 1))
 (.rd (some 71) none (.mov (.t 2))
 (.cl false (some 72) none (.c (.fn (.func 96) [] [])) [(.t 69), (.t 70), (.t 71)]
 .done))))
def zq20_17 : AT := (.rd (some 73) none (.mov (.t 1))
 (.rd (some 74) none (.bin .gtr (.t 73) (.c (.int .i64 0)))
 (.rd (some 75) none (.mov (.t 74))
 (.rd (some 76) (some (75, true)) (.mov (.t 0))
 (.rd (some 77) (some (75, true)) (.mov (.t 1))
 (.rd (some 78) (some (75, true)) (.bin .sub (.t 77) (.c (.int .i64 1)))
 (.rd (some 79) (some (75, true)) (.iaddr none 1 (.t 76) (.t 78))
 (.rd (some 80) (some (75, true)) (.load false 1 (.t 79))
 (.rd (some 81) (some (75, true)) (.mov (.t 0))
 (.rd (some 82) (some (75, true)) (.mov (.t 11))
 (.rd (some 83) (some (75, true)) (.iaddr none 1 (.t 81) (.t 82))
 (.rd (some 84) (some (75, true)) (.load false 1 (.t 83))
 (.cl false (some 85) (some (75, true)) (.c (.fn (.func 97) [] [])) [(.t 80), (.t 84)]
 (.rd (some 86) (some (75, true)) (.un .not (.t 85))
 (.rd (some 87) none (.pick (.t 75) (.t 86) (.c (.bool false)))
 .done)))))))))))))))
def zq20_18 : AT := (.rd (some 88) none (.mov (.t 0))
 (.rd (some 89) none (.mov (.t 1))
 (.rd (some 90) none (.mov (.t 2))
 (.rd (some 91) none (.mov (.t 11))
 (.cl false (some 92) none (.c (.fn (.func 98) [] [])) [(.t 88), (.t 89), (.t 90), (.t 91)]
 (.rd (some 13) none (.mov (.t 92))
 .done))))))
def zq20_19 : AT := (.rd (some 93) none (.mov (.t 13))
 (.rd (some 1) none (.mov (.t 93))
 .done))
def zq20_20 : AT := (.rd (some 95) none (.mov (.t 0))
 (.rd (some 96) none (.mov (.t 1))
 (.rd (some 97) none (.mov (.t 2))
 (.rd (some 98) none (.mov (.t 11))
 (.cl false (some 99) none (.c (.fn (.func 99) [] [])) [(.t 95), (.t 96), (.t 97), (.t 98)]
 (.rd (some 94) none (.mov (.t 99))
 (.rd (some 100) none (.extr (.t 94) 0)
 (.rd (some 101) none (.extr (.t 94) 1)
 (.rd (some 14) none (.mov (.t 100))
 (.rd (some 15) none (.mov (.t 101))
 .done))))))))))
def zq20_21 : AT := (.rd (some 102) none (.mov (.t 15))
 (.rd (some 9) none (.mov (.t 102))
 .done))
def zq20_22 : AT := (.rd (some 103) none (.mov (.t 14))
 (.rd (some 104) none (.mov (.t 1))
 (.rd (some 105) none (.bin .sub (.t 103) (.t 104))
 (.rd (some 106) none (.mov (.t 2))
 (.rd (some 107) none (.mov (.t 14))
 (.rd (some 108) none (.bin .sub (.t 106) (.t 107))
 (.rd (some 16) none (.mov (.t 105))
 (.rd (some 17) none (.mov (.t 108))
 .done))))))))
def zq20_23 : AT := (.rd (some 109) none (.mov (.t 10))
 (.rd (some 110) none (.bin .quo (.t 109) (.c (.int .i64 8)))
 (.rd (some 18) none (.mov (.t 110))
 .done)))
def zq20_24 : AT := (.rd (some 111) none (.mov (.t 16))
 (.rd (some 112) none (.mov (.t 17))
 (.rd (some 113) none (.bin .lss (.t 111) (.t 112))
 .done)))
def zq20_25 : AT := (.rd (some 114) none (.mov (.t 16))
 (.rd (some 115) none (.mov (.t 18))
 (.rd (some 116) none (.bin .geq (.t 114) (.t 115))
 (.rd (some 8) none (.mov (.t 116))
 .done))))
def zq20_26 : AT := (.rd (some 117) none (.mov (.t 0))
 (.rd (some 118) none (.mov (.t 1))
 (.rd (some 119) none (.mov (.t 14))
 (.rd (some 120) none (.mov (.t 3))
 (.cl false (some 121) none (.c (.fn (.func 75) [] [])) [(.t 117), (.t 118), (.t 119), (.t 120)]
 .done)))))
def zq20_27 : AT := (.rd (some 122) none (.mov (.t 14))
 (.rd (some 123) none (.bin .add (.t 122) (.c (.int .i64 1)))
 (.rd (some 1) none (.mov (.t 123))
 .done)))
def zq20_28 : AT := (.rd (some 124) none (.mov (.t 17))
 (.rd (some 125) none (.mov (.t 18))
 (.rd (some 126) none (.bin .geq (.t 124) (.t 125))
 (.rd (some 8) none (.mov (.t 126))
 .done))))
def zq20_29 : AT := (.rd (some 127) none (.mov (.t 0))
 (.rd (some 128) none (.mov (.t 14))
 (.rd (some 129) none (.bin .add (.t 128) (.c (.int .i64 1)))
 (.rd (some 130) none (.mov (.t 2))
 (.rd (some 131) none (.mov (.t 3))
 (.cl false (some 132) none (.c (.fn (.func 75) [] [])) [(.t 127), (.t 129), (.t 130), (.t 131)]
 .done))))))
def zq20_30 : AT := (.rd (some 133) none (.mov (.t 14))
 (.rd (some 2) none (.mov (.t 133))
 .done))
def slices_pdqsortOrdered_term_ID : AF := ⟨134, [],
  (.seq (.reg zq20_0 [])
  (.seq (.reg zq20_1 [])
  (.block 0 (.loop (.block 1 (.seq (.reg zq20_2 [19, 20, 21])
  (.seq (.seq (.reg zq20_3 [22])
  (.cond (.t 23)
  (.seq (.reg zq20_4 [24, 25, 26, 27])
  .ret)
  .skip))
  (.seq (.seq (.reg zq20_5 [28])
  (.cond (.t 29)
  (.seq (.reg zq20_6 [30, 31, 32, 33])
  .ret)
  .skip))
  (.seq (.seq (.reg zq20_7 [34])
  (.cond (.t 35)
  (.seq (.reg zq20_8 [36, 37, 38, 39])
  (.reg zq20_9 [40, 41]))
  .skip))
  (.seq (.reg zq20_10 [43, 44, 45, 46, 42, 47, 48])
  (.seq (.seq (.reg zq20_11 [49])
  (.cond (.t 50)
  (.seq (.reg zq20_12 [51, 52, 53, 54])
  (.seq (.reg zq20_13 [55, 56, 57, 58, 59, 60])
  (.reg zq20_14 [])))
  .skip))
  (.seq (.seq (.reg zq20_15 [61, 62, 63, 64, 65, 66, 67])
  (.cond (.t 68)
  (.seq (.reg zq20_16 [69, 70, 71])
  (.cond (.t 72)
  .ret
  .skip))
  .skip))
  (.seq (.seq (.reg zq20_17 [73, 74, 75, 76, 77, 78, 79, 80, 81, 82, 83, 84, 85, 86])
  (.cond (.t 87)
  (.seq (.reg zq20_18 [88, 89, 90, 91, 92])
  (.seq (.reg zq20_19 [93])
  (.exit 1)))
  .skip))
  (.seq (.reg zq20_20 [95, 96, 97, 98, 99, 94, 100, 101])
  (.seq (.reg zq20_21 [102])
  (.seq (.reg zq20_22 [103, 104, 105, 106, 107, 108])
  (.seq (.reg zq20_23 [109, 110])
  (.seq (.reg zq20_24 [111, 112])
  (.cond (.t 113)
  (.seq (.reg zq20_25 [114, 115, 116])
  (.seq (.reg zq20_26 [117, 118, 119, 120, 121])
  (.reg zq20_27 [122, 123])))
  (.seq (.reg zq20_28 [124, 125, 126])
  (.seq (.reg zq20_29 [127, 128, 129, 130, 131, 132])
  (.reg zq20_30 [133]))))))))))))))))))))))⟩
abbrev n_slices_pdqsortOrdered_term_ID : Nat := 75
/- proofmark/proofmarkref02.has -/
def zq21_0 : AT := (.rd (some 4) none (.mov (.c (.bool false)))
 .done)
def zq21_1 : AT := (.rd (some 5) none (.mov (.t 1))
 (.rd (some 6) none (.bin .geq (.t 5) (.c (.int .i64 0)))
 (.rd (some 7) none (.mov (.t 6))
 (.rd (some 8) (some (7, true)) (.mov (.t 1))
 (.rd (some 9) (some (7, true)) (.mov (.t 0))
 (.rd (some 10) (some (7, true)) (.bin .lss (.t 8) (.t 9))
 (.rd (some 11) none (.pick (.t 7) (.t 10) (.c (.bool false)))
 (.rd (some 4) none (.mov (.t 11))
 .done))))))))
def proofmarkref02_has : AF := ⟨12, [.tmp 4],
  (.seq (.reg zq21_0 [])
  (.seq (.reg zq21_1 [5, 6, 7, 8, 9, 10, 11])
  .ret))⟩
abbrev n_proofmarkref02_has : Nat := 76
/- (*proofmark/proofmarkref02.Graph).uses -/
def zq22_0 : AT := (.rd (some 6) none (.mov (.c (.bool false)))
 .done)
def zq22_1 : AT := (.rd (some 8) none (.mov (.t 1))
 (.rd (some 9) none (.mov (.t 2))
 (.rd (some 10) none (.bin .eql (.t 8) (.t 9))
 .done)))
def zq22_2 : AT := (.rd (some 6) none (.mov (.c (.bool true)))
 .done)
def zq22_3 : AT := (.rd (some 11) none (.mov (.t 0))
 (.rd (some 12) none (.nilc (.t 11))
 (.rd (some 13) none (.faddr 0 (.t 12))
 (.rd (some 14) none (.load false 1 (.t 13))
 (.rd (some 15) none (.mov (.t 1))
 (.rd (some 16) none (.iaddr none 6 (.t 14) (.t 15))
 (.rd (some 17) none (.load true 6 (.t 16))
 (.wr false (some 7) none (.new 66 [(.int .u8 0), (.int .i64 0), (.int .i64 0), (.int .u8 0), (.int .i64 0), (.int .i64 0)])
 (.wr false none none (.store 6 (.t 7) (.t 17))
 .done)))))))))
def zq22_4 : AT := (.rd (some 18) none (.faddr 0 (.t 7))
 (.rd (some 19) none (.load false 1 (.t 18))
 (.rd (some 20) none (.bin .geq (.t 19) (.c (.int .u8 3)))
 (.rd (some 21) none (.mov (.t 20))
 (.rd (some 22) (some (21, true)) (.mov (.t 0))
 (.rd (some 23) (some (21, true)) (.faddr 5 (.t 7))
 (.rd (some 24) (some (21, true)) (.load false 1 (.t 23))
 (.rd (some 25) (some (21, true)) (.mov (.t 2))
 (.cl false (some 26) (some (21, true)) (.c (.fn (.func 77) [] [])) [(.t 22), (.t 24), (.t 25)]
 (.rd (some 27) none (.pick (.t 21) (.t 26) (.c (.bool false)))
 (.rd (some 28) none (.mov (.t 27))
 (.rd (some 29) (some (28, false)) (.faddr 0 (.t 7))
 (.rd (some 30) (some (28, false)) (.load false 1 (.t 29))
 (.rd (some 31) (some (28, false)) (.bin .eql (.t 30) (.c (.int .u8 4)))
 (.rd (some 32) (some (28, false)) (.mov (.t 31))
 (.rd (some 33) (some (32, true)) (.mov (.t 0))
 (.rd (some 34) (some (32, true)) (.faddr 4 (.t 7))
 (.rd (some 35) (some (32, true)) (.load false 1 (.t 34))
 (.rd (some 36) (some (32, true)) (.mov (.t 2))
 (.cl false (some 37) (some (32, true)) (.c (.fn (.func 77) [] [])) [(.t 33), (.t 35), (.t 36)]
 (.rd (some 38) (some (28, false)) (.pick (.t 32) (.t 37) (.c (.bool false)))
 (.rd (some 39) none (.pick (.t 28) (.c (.bool true)) (.t 38))
 (.rd (some 6) none (.mov (.t 39))
 .done)))))))))))))))))))))))
def proofmarkref02_Graph_uses : AF := ⟨40, [.tmp 6],
  (.seq (.reg zq22_0 [])
  (.seq (.seq (.reg zq22_1 [8, 9])
  (.cond (.t 10)
  (.seq (.reg zq22_2 [])
  .ret)
  .skip))
  (.seq (.reg zq22_3 [11, 12, 13, 14, 15, 16, 17])
  (.seq (.reg zq22_4 [18, 19, 20, 21, 22, 23, 24, 25, 26, 27, 28, 29, 30, 31, 32, 33, 34, 35, 36, 37, 38, 39])
  .ret))))⟩
abbrev n_proofmarkref02_Graph_uses : Nat := 77
/- slices.insertionSortOrdered[int64] -/
def zq23_0 : AT := (.rd (some 8) none (.mov (.t 1))
 (.rd (some 9) none (.bin .add (.t 8) (.c (.int .i64 1)))
 (.rd (some 6) none (.mov (.t 9))
 .done)))
def zq23_1 : AT := (.rd (some 10) none (.mov (.t 6))
 (.rd (some 11) none (.mov (.t 2))
 (.rd (some 12) none (.bin .lss (.t 10) (.t 11))
 .done)))
def zq23_2 : AT := (.rd (some 15) none (.mov (.t 6))
 (.rd (some 7) none (.mov (.t 15))
 .done))
def zq23_3 : AT := (.rd (some 16) none (.mov (.t 7))
 (.rd (some 17) none (.mov (.t 1))
 (.rd (some 18) none (.bin .gtr (.t 16) (.t 17))
 (.rd (some 19) none (.mov (.t 18))
 (.rd (some 20) (some (19, true)) (.mov (.t 0))
 (.rd (some 21) (some (19, true)) (.mov (.t 7))
 (.rd (some 22) (some (19, true)) (.iaddr none 1 (.t 20) (.t 21))
 (.rd (some 23) (some (19, true)) (.load false 1 (.t 22))
 (.rd (some 24) (some (19, true)) (.mov (.t 0))
 (.rd (some 25) (some (19, true)) (.mov (.t 7))
 (.rd (some 26) (some (19, true)) (.bin .sub (.t 25) (.c (.int .i64 1)))
 (.rd (some 27) (some (19, true)) (.iaddr none 1 (.t 24) (.t 26))
 (.rd (some 28) (some (19, true)) (.load false 1 (.t 27))
 (.cl false (some 29) (some (19, true)) (.c (.fn (.func 84) [] [])) [(.t 23), (.t 28)]
 (.rd (some 30) none (.pick (.t 19) (.t 29) (.c (.bool false)))
 .done)))))))))))))))
def zq23_4 : AT := (.rd (some 33) none (.mov (.t 0))
 (.rd (some 34) none (.mov (.t 7))
 (.rd (some 35) none (.mov (.t 0))
 (.rd (some 36) none (.mov (.t 7))
 (.rd (some 37) none (.bin .sub (.t 36) (.c (.int .i64 1)))
 (.rd (some 38) none (.mov (.t 0))
 (.rd (some 39) none (.mov (.t 7))
 (.rd (some 40) none (.bin .sub (.t 39) (.c (.int .i64 1)))
 (.rd (some 41) none (.iaddr none 1 (.t 38) (.t 40))
 (.rd (some 42) none (.load false 1 (.t 41))
 (.rd (some 43) none (.mov (.t 0))
 (.rd (some 44) none (.mov (.t 7))
 (.rd (some 45) none (.iaddr none 1 (.t 43) (.t 44))
 (.rd (some 46) none (.load false 1 (.t 45))
 (.rd (some 47) none (.iaddr none 1 (.t 33) (.t 34))
 (.wr false none none (.store 1 (.t 47) (.t 42))
 (.rd (some 48) none (.iaddr none 1 (.t 35) (.t 37))
 (.wr false none none (.store 1 (.t 48) (.t 46))
 .done))))))))))))))))))
def zq23_5 : AT := (.rd (some 31) none (.mov (.t 7))
 (.rd (some 32) none (.bin .sub (.t 31) (.c (.int .i64 1)))
 (.rd (some 7) none (.mov (.t 32))
 .done)))
def zq23_6 : AT := (.rd (some 13) none (.mov (.t 6))
 (.rd (some 14) none (.bin .add (.t 13) (.c (.int .i64 1)))
 (.rd (some 6) none (.mov (.t 14))
 .done)))
def slices_insertionSortOrdered_int64 : AF := ⟨49, [],
  (.seq (.reg zq23_0 [8, 9])
  (.block 0 (.loop (.seq (.seq (.reg zq23_1 [10, 11])
  (.cond (.t 12)
  .skip
  (.exit 0)))
  (.seq (.block 1 (.seq (.reg zq23_2 [15])
  (.block 2 (.loop (.seq (.seq (.reg zq23_3 [16, 17, 18, 19, 20, 21, 22, 23, 24, 25, 26, 27, 28, 29])
  (.cond (.t 30)
  .skip
  (.exit 2)))
  (.seq (.block 3 (.reg zq23_4 [33, 34, 35, 36, 37, 38, 39, 40, 41, 42, 43, 44, 45, 46, 47, 48]))
  (.reg zq23_5 [31, 32])))))))
  (.reg zq23_6 [13, 14]))))))⟩
abbrev n_slices_insertionSortOrdered_int64 : Nat := 78
abbrev n_slices_heapSortOrdered_int64 : Nat := 79
abbrev n_slices_breakPatternsOrdered_int64 : Nat := 80
abbrev n_slices_choosePivotOrdered_int64 : Nat := 81
abbrev n_slices_reverseRangeOrdered_int64 : Nat := 82
abbrev n_slices_partialInsertionSortOrdered_int64 : Nat := 83
/- cmp.Less[int64] -/
def zq29_0 : AT := (.rd (some 4) none (.mov (.c (.bool false)))
 .done)
def zq29_1 : AT := (.rd (some 5) none (.mov (.t 0))
 (.cl false (some 6) none (.c (.fn (.func 105) [] [])) [(.t 5)]
 (.rd (some 7) none (.mov (.t 6))
 (.rd (some 8) (some (7, true)) (.mov (.t 1))
 (.cl false (some 9) (some (7, true)) (.c (.fn (.func 105) [] [])) [(.t 8)]
 (.rd (some 10) (some (7, true)) (.un .not (.t 9))
 (.rd (some 11) none (.pick (.t 7) (.t 10) (.c (.bool false)))
 (.rd (some 12) none (.mov (.t 11))
 (.rd (some 13) (some (12, false)) (.mov (.t 0))
 (.rd (some 14) (some (12, false)) (.mov (.t 1))
 (.rd (some 15) (some (12, false)) (.bin .lss (.t 13) (.t 14))
 (.rd (some 16) none (.pick (.t 12) (.c (.bool true)) (.t 15))
 (.rd (some 4) none (.mov (.t 16))
 .done)))))))))))))
def cmp_Less_int64 : AF := ⟨17, [.tmp 4],
  (.seq (.reg zq29_0 [])
  (.seq (.reg zq29_1 [5, 6, 7, 8, 9, 10, 11, 12, 13, 14, 15, 16])
  .ret))⟩
abbrev n_cmp_Less_int64 : Nat := 84
abbrev n_slices_partitionEqualOrdered_int64 : Nat := 85
abbrev n_slices_partitionOrdered_int64 : Nat := 86
/- math/bits.Len32 -/
def zq2c_0 : AT := (.rd (some 2) none (.mov (.c (.int .i64 0)))
 .done)
def zq2c_1 : AT := (.rd (some 3) none (.mov (.t 0))
 (.rd (some 4) none (.bin .geq (.t 3) (.c (.int .u32 65536)))
 .done))
def zq2c_2 : AT := (.rd (some 5) none (.mov (.t 0))
 (.rd (some 6) none (.bin .shr (.t 5) (.c (.int .u64 16)))
 (.rd (some 0) none (.mov (.t 6))
 .done)))
def zq2c_3 : AT := (.rd (some 2) none (.mov (.c (.int .i64 16)))
 .done)
def zq2c_4 : AT := (.rd (some 7) none (.mov (.t 0))
 (.rd (some 8) none (.bin .geq (.t 7) (.c (.int .u32 256)))
 .done))
def zq2c_5 : AT := (.rd (some 9) none (.mov (.t 0))
 (.rd (some 10) none (.bin .shr (.t 9) (.c (.int .u64 8)))
 (.rd (some 0) none (.mov (.t 10))
 .done)))
def zq2c_6 : AT := (.rd (some 11) none (.mov (.t 2))
 (.rd (some 12) none (.bin .add (.t 11) (.c (.int .i64 8)))
 (.rd (some 2) none (.mov (.t 12))
 .done)))
def zq2c_7 : AT := (.rd (some 13) none (.mov (.t 2))
 (.rd (some 14) none (.mov (.t 0))
 (.rd (some 15) none (.conv .u8 (.t 14))
 (.rd (some 16) none (.sidx (.c (.str [0, 1, 2, 2, 3, 3, 3, 3, 4, 4, 4, 4, 4, 4, 4, 4, 5, 5, 5, 5, 5, 5, 5, 5, 5, 5, 5, 5, 5, 5, 5, 5, 6, 6, 6, 6, 6, 6, 6, 6, 6, 6, 6, 6, 6, 6, 6, 6, 6, 6, 6, 6, 6, 6, 6, 6, 6, 6, 6, 6, 6, 6, 6, 6, 7, 7, 7, 7, 7, 7, 7, 7, 7, 7, 7, 7, 7, 7, 7, 7, 7, 7, 7, 7, 7, 7, 7, 7, 7, 7, 7, 7, 7, 7, 7, 7, 7, 7, 7, 7, 7, 7, 7, 7, 7, 7, 7, 7, 7, 7, 7, 7, 7, 7, 7, 7, 7, 7, 7, 7, 7, 7, 7, 7, 7, 7, 7, 7, 8, 8, 8, 8, 8, 8, 8, 8, 8, 8, 8, 8, 8, 8, 8, 8, 8, 8, 8, 8, 8, 8, 8, 8, 8, 8, 8, 8, 8, 8, 8, 8, 8, 8, 8, 8, 8, 8, 8, 8, 8, 8, 8, 8, 8, 8, 8, 8, 8, 8, 8, 8, 8, 8, 8, 8, 8, 8, 8, 8, 8, 8, 8, 8, 8, 8, 8, 8, 8, 8, 8, 8, 8, 8, 8, 8, 8, 8, 8, 8, 8, 8, 8, 8, 8, 8, 8, 8, 8, 8, 8, 8, 8, 8, 8, 8, 8, 8, 8, 8, 8, 8, 8, 8, 8, 8, 8, 8, 8, 8, 8, 8, 8, 8, 8, 8, 8, 8, 8, 8, 8, 8, 8, 8, 8, 8, 8, 8])) (.t 15))
 (.rd (some 17) none (.conv .i64 (.t 16))
 (.rd (some 18) none (.bin .add (.t 13) (.t 17))
 (.rd (some 2) none (.mov (.t 18))
 .done)))))))
def math_bits_Len32 : AF := ⟨19, [.tmp 2],
  (.seq (.reg zq2c_0 [])
  (.seq (.seq (.reg zq2c_1 [3])
  (.cond (.t 4)
  (.seq (.reg zq2c_2 [5, 6])
  (.reg zq2c_3 []))
  .skip))
  (.seq (.seq (.reg zq2c_4 [7])
  (.cond (.t 8)
  (.seq (.reg zq2c_5 [9, 10])
  (.reg zq2c_6 [11, 12]))
  .skip))
  (.seq (.reg zq2c_7 [13, 14, 15, 16, 17, 18])
  .ret))))⟩
abbrev n_math_bits_Len32 : Nat := 87
/- math/bits.Len64 -/
def zq2d_0 : AT := (.rd (some 2) none (.mov (.c (.int .i64 0)))
 .done)
def zq2d_1 : AT := (.rd (some 3) none (.mov (.t 0))
 (.rd (some 4) none (.bin .geq (.t 3) (.c (.int .u64 4294967296)))
 .done))
def zq2d_2 : AT := (.rd (some 5) none (.mov (.t 0))
 (.rd (some 6) none (.bin .shr (.t 5) (.c (.int .u64 32)))
 (.rd (some 0) none (.mov (.t 6))
 .done)))
def zq2d_3 : AT := (.rd (some 2) none (.mov (.c (.int .i64 32)))
 .done)
def zq2d_4 : AT := (.rd (some 7) none (.mov (.t 0))
 (.rd (some 8) none (.bin .geq (.t 7) (.c (.int .u64 65536)))
 .done))
def zq2d_5 : AT := (.rd (some 9) none (.mov (.t 0))
 (.rd (some 10) none (.bin .shr (.t 9) (.c (.int .u64 16)))
 (.rd (some 0) none (.mov (.t 10))
 .done)))
def zq2d_6 : AT := (.rd (some 11) none (.mov (.t 2))
 (.rd (some 12) none (.bin .add (.t 11) (.c (.int .i64 16)))
 (.rd (some 2) none (.mov (.t 12))
 .done)))
def zq2d_7 : AT := (.rd (some 13) none (.mov (.t 0))
 (.rd (some 14) none (.bin .geq (.t 13) (.c (.int .u64 256)))
 .done))
def zq2d_8 : AT := (.rd (some 15) none (.mov (.t 0))
 (.rd (some 16) none (.bin .shr (.t 15) (.c (.int .u64 8)))
 (.rd (some 0) none (.mov (.t 16))
 .done)))
def zq2d_9 : AT := (.rd (some 17) none (.mov (.t 2))
 (.rd (some 18) none (.bin .add (.t 17) (.c (.int .i64 8)))
 (.rd (some 2) none (.mov (.t 18))
 .done)))
def zq2d_10 : AT := (.rd (some 19) none (.mov (.t 2))
 (.rd (some 20) none (.mov (.t 0))
 (.rd (some 21) none (.conv .u8 (.t 20))
 (.rd (some 22) none (.sidx (.c (.str [0, 1, 2, 2, 3, 3, 3, 3, 4, 4, 4, 4, 4, 4, 4, 4, 5, 5, 5, 5, 5, 5, 5, 5, 5, 5, 5, 5, 5, 5, 5, 5, 6, 6, 6, 6, 6, 6, 6, 6, 6, 6, 6, 6, 6, 6, 6, 6, 6, 6, 6, 6, 6, 6, 6, 6, 6, 6, 6, 6, 6, 6, 6, 6, 7, 7, 7, 7, 7, 7, 7, 7, 7, 7, 7, 7, 7, 7, 7, 7, 7, 7, 7, 7, 7, 7, 7, 7, 7, 7, 7, 7, 7, 7, 7, 7, 7, 7, 7, 7, 7, 7, 7, 7, 7, 7, 7, 7, 7, 7, 7, 7, 7, 7, 7, 7, 7, 7, 7, 7, 7, 7, 7, 7, 7, 7, 7, 7, 8, 8, 8, 8, 8, 8, 8, 8, 8, 8, 8, 8, 8, 8, 8, 8, 8, 8, 8, 8, 8, 8, 8, 8, 8, 8, 8, 8, 8, 8, 8, 8, 8, 8, 8, 8, 8, 8, 8, 8, 8, 8, 8, 8, 8, 8, 8, 8, 8, 8, 8, 8, 8, 8, 8, 8, 8, 8, 8, 8, 8, 8, 8, 8, 8, 8, 8, 8, 8, 8, 8, 8, 8, 8, 8, 8, 8, 8, 8, 8, 8, 8, 8, 8, 8, 8, 8, 8, 8, 8, 8, 8, 8, 8, 8, 8, 8, 8, 8, 8, 8, 8, 8, 8, 8, 8, 8, 8, 8, 8, 8, 8, 8, 8, 8, 8, 8, 8, 8, 8, 8, 8, 8, 8, 8, 8, 8, 8])) (.t 21))
 (.rd (some 23) none (.conv .i64 (.t 22))
 (.rd (some 24) none (.bin .add (.t 19) (.t 23))
 (.rd (some 2) none (.mov (.t 24))
 .done)))))))
def math_bits_Len64 : AF := ⟨25, [.tmp 2],
  (.seq (.reg zq2d_0 [])
  (.seq (.seq (.reg zq2d_1 [3])
  (.cond (.t 4)
  (.seq (.reg zq2d_2 [5, 6])
  (.reg zq2d_3 []))
  .skip))
  (.seq (.seq (.reg zq2d_4 [7])
  (.cond (.t 8)
  (.seq (.reg zq2d_5 [9, 10])
  (.reg zq2d_6 [11, 12]))
  .skip))
  (.seq (.seq (.reg zq2d_7 [13])
  (.cond (.t 14)
  (.seq (.reg zq2d_8 [15, 16])
  (.reg zq2d_9 [17, 18]))
  .skip))
  (.seq (.reg zq2d_10 [19, 20, 21, 22, 23, 24])
  .ret)))))⟩
abbrev n_math_bits_Len64 : Nat := 88
/- internal/strconv.FormatInt -/
def zq2e_0 : AT := (.rd (some 4) none (.mov (.c (.str [])))
 .done)
def zq2e_1 : AT := (.rd (some 10) none (.mov (.t 1))
 (.rd (some 11) none (.bin .eql (.t 10) (.c (.int .i64 10)))
 .done))
def zq2e_2 : AT := (.rd (some 12) none (.mov (.t 0))
 (.rd (some 13) none (.bin .leq (.c (.int .i64 0)) (.t 12))
 (.rd (some 14) none (.mov (.t 13))
 (.rd (some 15) (some (14, true)) (.mov (.t 0))
 (.rd (some 16) (some (14, true)) (.bin .lss (.t 15) (.c (.int .i64 100)))
 (.rd (some 17) none (.pick (.t 14) (.t 16) (.c (.bool false)))
 .done))))))
def zq2e_3 : AT := (.rd (some 18) none (.mov (.t 0))
 (.cl false (some 19) none (.c (.fn (.func 106) [] [])) [(.t 18)]
 (.rd (some 4) none (.mov (.t 19))
 .done)))
def zq2e_4 : AT := (.wr false (some 5) none (.new 138 (List.replicate 24 [(.int .u8 0)]).flatten)
 .done)
def zq2e_5 : AT := (.rd (some 20) none (.mov (.t 0))
 (.rd (some 21) none (.conv .u64 (.t 20))
 (.rd (some 6) none (.mov (.t 21))
 .done)))
def zq2e_6 : AT := (.rd (some 22) none (.mov (.t 0))
 (.rd (some 23) none (.bin .lss (.t 22) (.c (.int .i64 0)))
 .done))
def zq2e_7 : AT := (.rd (some 24) none (.mov (.t 6))
 (.rd (some 25) none (.un .neg (.t 24))
 (.rd (some 6) none (.mov (.t 25))
 .done)))
def zq2e_8 : AT := (.rd (some 26) none (.mov (.t 6))
 (.cl false (some 27) none (.c (.fn (.func 107) [] [])) [(.t 26)]
 (.rd (some 7) none (.mov (.t 27))
 .done)))
def zq2e_9 : AT := (.rd (some 28) none (.mov (.t 7))
 (.rd (some 29) none (.bin .add (.c (.int .i64 1)) (.t 28))
 (.rd (some 30) none (.slarr 24 1 (.t 5) (some (.c (.int .i64 1))) (some (.t 29)))
 (.rd (some 31) none (.mov (.t 6))
 (.cl false (some 32) none (.c (.fn (.func 108) [] [])) [(.t 30), (.t 31)]
 .done)))))
def zq2e_10 : AT := (.rd (some 33) none (.mov (.t 0))
 (.rd (some 34) none (.bin .lss (.t 33) (.c (.int .i64 0)))
 .done))
def zq2e_11 : AT := (.rd (some 35) none (.iaddr (some 24) 1 (.t 5) (.c (.int .i64 0)))
 (.wr false none none (.store 1 (.t 35) (.c (.int .u8 45)))
 .done))
def zq2e_12 : AT := (.rd (some 36) none (.mov (.t 7))
 (.rd (some 37) none (.bin .add (.c (.int .i64 1)) (.t 36))
 (.rd (some 38) none (.slarr 24 1 (.t 5) none (some (.t 37)))
 (.wr false (some 39) none (.tostr (.t 38))
 (.rd (some 4) none (.mov (.t 39))
 .done)))))
def zq2e_13 : AT := (.rd (some 40) none (.mov (.t 7))
 (.rd (some 41) none (.bin .add (.c (.int .i64 1)) (.t 40))
 (.rd (some 42) none (.slarr 24 1 (.t 5) (some (.c (.int .i64 1))) (some (.t 41)))
 (.wr false (some 43) none (.tostr (.t 42))
 (.rd (some 4) none (.mov (.t 43))
 .done)))))
def zq2e_14 : AT := (.rd (some 45) none (.mov (.t 0))
 (.rd (some 46) none (.conv .u64 (.t 45))
 (.rd (some 47) none (.mov (.t 1))
 (.rd (some 48) none (.mov (.t 0))
 (.rd (some 49) none (.bin .lss (.t 48) (.c (.int .i64 0)))
 (.cl false (some 50) none (.c (.fn (.func 109) [] [])) [(.c (.lst 0 [] true)), (.t 46), (.t 47), (.t 49), (.c (.bool false))]
 (.rd (some 44) none (.mov (.t 50))
 (.rd (some 51) none (.extr (.t 44) 0)
 (.rd (some 52) none (.extr (.t 44) 1)
 (.rd (some 8) none (.mov (.t 51))
 (.rd (some 9) none (.mov (.t 52))
 .done)))))))))))
def zq2e_15 : AT := (.rd (some 53) none (.mov (.t 9))
 (.rd (some 4) none (.mov (.t 53))
 .done))
def internal_strconv_FormatInt : AF := ⟨54, [.tmp 4],
  (.seq (.reg zq2e_0 [])
  (.seq (.seq (.reg zq2e_1 [10])
  (.cond (.t 11)
  (.seq (.seq (.reg zq2e_2 [12, 13, 14, 15, 16])
  (.cond (.t 17)
  (.seq (.reg zq2e_3 [18, 19])
  .ret)
  .skip))
  (.seq (.reg zq2e_4 [])
  (.seq (.reg zq2e_5 [20, 21])
  (.seq (.seq (.reg zq2e_6 [22])
  (.cond (.t 23)
  (.reg zq2e_7 [24, 25])
  .skip))
  (.seq (.reg zq2e_8 [26, 27])
  (.seq (.reg zq2e_9 [28, 29, 30, 31, 32])
  (.seq (.seq (.reg zq2e_10 [33])
  (.cond (.t 34)
  (.seq (.reg zq2e_11 [35])
  (.seq (.reg zq2e_12 [36, 37, 38, 39])
  .ret))
  .skip))
  (.seq (.reg zq2e_13 [40, 41, 42, 43])
  .ret))))))))
  .skip))
  (.seq (.reg zq2e_14 [45, 46, 47, 48, 49, 50, 44, 51, 52, 8])
  (.seq (.reg zq2e_15 [53])
  .ret))))⟩
abbrev n_internal_strconv_FormatInt : Nat := 89
/- internal/strconv.Itoa -/
def zq2f_0 : AT := (.rd (some 2) none (.mov (.c (.str [])))
 .done)
def zq2f_1 : AT := (.rd (some 3) none (.mov (.t 0))
 (.cl false (some 4) none (.c (.fn (.func 89) [] [])) [(.t 3), (.c (.int .i64 10))]
 (.rd (some 2) none (.mov (.t 4))
 .done)))
def internal_strconv_Itoa : AF := ⟨5, [.tmp 2],
  (.seq (.reg zq2f_0 [])
  (.seq (.reg zq2f_1 [3, 4])
  .ret))⟩
abbrev n_internal_strconv_Itoa : Nat := 90
/- slices.insertionSortOrdered[proofmark/term.ID] -/
def zq2g_0 : AT := (.rd (some 8) none (.mov (.t 1))
 (.rd (some 9) none (.bin .add (.t 8) (.c (.int .i64 1)))
 (.rd (some 6) none (.mov (.t 9))
 .done)))
def zq2g_1 : AT := (.rd (some 10) none (.mov (.t 6))
 (.rd (some 11) none (.mov (.t 2))
 (.rd (some 12) none (.bin .lss (.t 10) (.t 11))
 .done)))
def zq2g_2 : AT := (.rd (some 15) none (.mov (.t 6))
 (.rd (some 7) none (.mov (.t 15))
 .done))
def zq2g_3 : AT := (.rd (some 16) none (.mov (.t 7))
 (.rd (some 17) none (.mov (.t 1))
 (.rd (some 18) none (.bin .gtr (.t 16) (.t 17))
 (.rd (some 19) none (.mov (.t 18))
 (.rd (some 20) (some (19, true)) (.mov (.t 0))
 (.rd (some 21) (some (19, true)) (.mov (.t 7))
 (.rd (some 22) (some (19, true)) (.iaddr none 1 (.t 20) (.t 21))
 (.rd (some 23) (some (19, true)) (.load false 1 (.t 22))
 (.rd (some 24) (some (19, true)) (.mov (.t 0))
 (.rd (some 25) (some (19, true)) (.mov (.t 7))
 (.rd (some 26) (some (19, true)) (.bin .sub (.t 25) (.c (.int .i64 1)))
 (.rd (some 27) (some (19, true)) (.iaddr none 1 (.t 24) (.t 26))
 (.rd (some 28) (some (19, true)) (.load false 1 (.t 27))
 (.cl false (some 29) (some (19, true)) (.c (.fn (.func 97) [] [])) [(.t 23), (.t 28)]
 (.rd (some 30) none (.pick (.t 19) (.t 29) (.c (.bool false)))
 .done)))))))))))))))
def zq2g_4 : AT := (.rd (some 33) none (.mov (.t 0))
 (.rd (some 34) none (.mov (.t 7))
 (.rd (some 35) none (.mov (.t 0))
 (.rd (some 36) none (.mov (.t 7))
 (.rd (some 37) none (.bin .sub (.t 36) (.c (.int .i64 1)))
 (.rd (some 38) none (.mov (.t 0))
 (.rd (some 39) none (.mov (.t 7))
 (.rd (some 40) none (.bin .sub (.t 39) (.c (.int .i64 1)))
 (.rd (some 41) none (.iaddr none 1 (.t 38) (.t 40))
 (.rd (some 42) none (.load false 1 (.t 41))
 (.rd (some 43) none (.mov (.t 0))
 (.rd (some 44) none (.mov (.t 7))
 (.rd (some 45) none (.iaddr none 1 (.t 43) (.t 44))
 (.rd (some 46) none (.load false 1 (.t 45))
 (.rd (some 47) none (.iaddr none 1 (.t 33) (.t 34))
 (.wr false none none (.store 1 (.t 47) (.t 42))
 (.rd (some 48) none (.iaddr none 1 (.t 35) (.t 37))
 (.wr false none none (.store 1 (.t 48) (.t 46))
 .done))))))))))))))))))
def zq2g_5 : AT := (.rd (some 31) none (.mov (.t 7))
 (.rd (some 32) none (.bin .sub (.t 31) (.c (.int .i64 1)))
 (.rd (some 7) none (.mov (.t 32))
 .done)))
def zq2g_6 : AT := (.rd (some 13) none (.mov (.t 6))
 (.rd (some 14) none (.bin .add (.t 13) (.c (.int .i64 1)))
 (.rd (some 6) none (.mov (.t 14))
 .done)))
def slices_insertionSortOrdered_term_ID : AF := ⟨49, [],
  (.seq (.reg zq2g_0 [8, 9])
  (.block 0 (.loop (.seq (.seq (.reg zq2g_1 [10, 11])
  (.cond (.t 12)
  .skip
  (.exit 0)))
  (.seq (.block 1 (.seq (.reg zq2g_2 [15])
  (.block 2 (.loop (.seq (.seq (.reg zq2g_3 [16, 17, 18, 19, 20, 21, 22, 23, 24, 25, 26, 27, 28, 29])
  (.cond (.t 30)
  .skip
  (.exit 2)))
  (.seq (.block 3 (.reg zq2g_4 [33, 34, 35, 36, 37, 38, 39, 40, 41, 42, 43, 44, 45, 46, 47, 48]))
  (.reg zq2g_5 [31, 32])))))))
  (.reg zq2g_6 [13, 14]))))))⟩
abbrev n_slices_insertionSortOrdered_term_ID : Nat := 91
abbrev n_slices_heapSortOrdered_term_ID : Nat := 92
abbrev n_slices_breakPatternsOrdered_term_ID : Nat := 93
abbrev n_slices_choosePivotOrdered_term_ID : Nat := 94
abbrev n_slices_reverseRangeOrdered_term_ID : Nat := 95
abbrev n_slices_partialInsertionSortOrdered_term_ID : Nat := 96
/- cmp.Less[proofmark/term.ID] -/
def zq2m_0 : AT := (.rd (some 4) none (.mov (.c (.bool false)))
 .done)
def zq2m_1 : AT := (.rd (some 5) none (.mov (.t 0))
 (.cl false (some 6) none (.c (.fn (.func 113) [] [])) [(.t 5)]
 (.rd (some 7) none (.mov (.t 6))
 (.rd (some 8) (some (7, true)) (.mov (.t 1))
 (.cl false (some 9) (some (7, true)) (.c (.fn (.func 113) [] [])) [(.t 8)]
 (.rd (some 10) (some (7, true)) (.un .not (.t 9))
 (.rd (some 11) none (.pick (.t 7) (.t 10) (.c (.bool false)))
 (.rd (some 12) none (.mov (.t 11))
 (.rd (some 13) (some (12, false)) (.mov (.t 0))
 (.rd (some 14) (some (12, false)) (.mov (.t 1))
 (.rd (some 15) (some (12, false)) (.bin .lss (.t 13) (.t 14))
 (.rd (some 16) none (.pick (.t 12) (.c (.bool true)) (.t 15))
 (.rd (some 4) none (.mov (.t 16))
 .done)))))))))))))
def cmp_Less_term_ID : AF := ⟨17, [.tmp 4],
  (.seq (.reg zq2m_0 [])
  (.seq (.reg zq2m_1 [5, 6, 7, 8, 9, 10, 11, 12, 13, 14, 15, 16])
  .ret))⟩
abbrev n_cmp_Less_term_ID : Nat := 97
abbrev n_slices_partitionEqualOrdered_term_ID : Nat := 98
abbrev n_slices_partitionOrdered_term_ID : Nat := 99
abbrev n_slices_siftDownOrdered_int64 : Nat := 100
abbrev n_slices_nextPowerOfTwo : Nat := 101
abbrev n_slices_xorshift_Next : Nat := 102
abbrev n_slices_medianAdjacentOrdered_int64 : Nat := 103
abbrev n_slices_medianOrdered_int64 : Nat := 104
/- cmp.isNaN[int64] -/
def zq2u_0 : AT := (.rd (some 2) none (.mov (.c (.bool false)))
 .done)
def zq2u_1 : AT := (.rd (some 3) none (.mov (.t 0))
 (.rd (some 4) none (.mov (.t 0))
 (.rd (some 5) none (.bin .neq (.t 3) (.t 4))
 (.rd (some 2) none (.mov (.t 5))
 .done))))
def cmp_isNaN_int64 : AF := ⟨6, [.tmp 2],
  (.seq (.reg zq2u_0 [])
  (.seq (.reg zq2u_1 [3, 4, 5])
  .ret))⟩
abbrev n_cmp_isNaN_int64 : Nat := 105
/- internal/strconv.small -/
def zq2v_0 : AT := (.rd (some 2) none (.mov (.c (.str [])))
 .done)
def zq2v_1 : AT := (.rd (some 3) none (.mov (.t 0))
 (.rd (some 4) none (.bin .lss (.t 3) (.c (.int .i64 10)))
 .done))
def zq2v_2 : AT := (.rd (some 5) none (.mov (.t 0))
 (.rd (some 6) none (.mov (.t 0))
 (.rd (some 7) none (.bin .add (.t 6) (.c (.int .i64 1)))
 (.rd (some 8) none (.ssl (.c (.str [48, 49, 50, 51, 52, 53, 54, 55, 56, 57, 97, 98, 99, 100, 101, 102, 103, 104, 105, 106, 107, 108, 109, 110, 111, 112, 113, 114, 115, 116, 117, 118, 119, 120, 121, 122])) (some (.t 5)) (some (.t 7)))
 (.rd (some 2) none (.mov (.t 8))
 .done)))))
def zq2v_3 : AT := (.rd (some 9) none (.mov (.t 0))
 (.rd (some 10) none (.bin .mul (.t 9) (.c (.int .i64 2)))
 (.rd (some 11) none (.mov (.t 0))
 (.rd (some 12) none (.bin .mul (.t 11) (.c (.int .i64 2)))
 (.rd (some 13) none (.bin .add (.t 12) (.c (.int .i64 2)))
 (.rd (some 14) none (.ssl (.c (.str [48, 48, 48, 49, 48, 50, 48, 51, 48, 52, 48, 53, 48, 54, 48, 55, 48, 56, 48, 57, 49, 48, 49, 49, 49, 50, 49, 51, 49, 52, 49, 53, 49, 54, 49, 55, 49, 56, 49, 57, 50, 48, 50, 49, 50, 50, 50, 51, 50, 52, 50, 53, 50, 54, 50, 55, 50, 56, 50, 57, 51, 48, 51, 49, 51, 50, 51, 51, 51, 52, 51, 53, 51, 54, 51, 55, 51, 56, 51, 57, 52, 48, 52, 49, 52, 50, 52, 51, 52, 52, 52, 53, 52, 54, 52, 55, 52, 56, 52, 57, 53, 48, 53, 49, 53, 50, 53, 51, 53, 52, 53, 53, 53, 54, 53, 55, 53, 56, 53, 57, 54, 48, 54, 49, 54, 50, 54, 51, 54, 52, 54, 53, 54, 54, 54, 55, 54, 56, 54, 57, 55, 48, 55, 49, 55, 50, 55, 51, 55, 52, 55, 53, 55, 54, 55, 55, 55, 56, 55, 57, 56, 48, 56, 49, 56, 50, 56, 51, 56, 52, 56, 53, 56, 54, 56, 55, 56, 56, 56, 57, 57, 48, 57, 49, 57, 50, 57, 51, 57, 52, 57, 53, 57, 54, 57, 55, 57, 56, 57, 57])) (some (.t 10)) (some (.t 13)))
 (.rd (some 2) none (.mov (.t 14))
 .done)))))))
def internal_strconv_small : AF := ⟨15, [.tmp 2],
  (.seq (.reg zq2v_0 [])
  (.seq (.seq (.reg zq2v_1 [3])
  (.cond (.t 4)
  (.seq (.reg zq2v_2 [5, 6, 7, 8])
  .ret)
  .skip))
  (.seq (.reg zq2v_3 [9, 10, 11, 12, 13, 14])
  .ret)))⟩
abbrev n_internal_strconv_small : Nat := 106
/- internal/strconv.numDigits -/
def zq2w_0 : AT := (.rd (some 2) none (.mov (.c (.int .i64 0)))
 .done)
def zq2w_1 : AT := (.rd (some 4) none (.mov (.t 0))
 (.cl false (some 5) none (.c (.fn (.func 88) [] [])) [(.t 4)]
 (.cl false (some 6) none (.c (.fn (.func 115) [] [])) [(.t 5)]
 (.rd (some 3) none (.mov (.t 6))
 .done))))
def zq2w_2 : AT := (.rd (some 7) none (.mov (.t 3))
 (.rd (some 8) none (.mov (.t 0))
 (.rd (some 9) none (.mov (.t 3))
 (.rd (some 10) none (.iaddr (some 20) 1 (.g 0) (.t 9))
 (.rd (some 11) none (.load false 1 (.t 10))
 (.rd (some 12) none (.bin .geq (.t 8) (.t 11))
 (.cl false (some 13) none (.c (.fn (.func 116) [] [])) [(.t 12)]
 (.rd (some 14) none (.bin .add (.t 7) (.t 13))
 (.rd (some 2) none (.mov (.t 14))
 .done)))))))))
def internal_strconv_numDigits : AF := ⟨15, [.tmp 2],
  (.seq (.reg zq2w_0 [])
  (.seq (.reg zq2w_1 [4, 5, 6])
  (.seq (.reg zq2w_2 [7, 8, 9, 10, 11, 12, 13, 14])
  .ret)))⟩
abbrev n_internal_strconv_numDigits : Nat := 107
abbrev n_internal_strconv_formatBase10 : Nat := 108
abbrev n_internal_strconv_formatBits : Nat := 109
abbrev n_slices_siftDownOrdered_term_ID : Nat := 110
abbrev n_slices_medianAdjacentOrdered_term_ID : Nat := 111
abbrev n_slices_medianOrdered_term_ID : Nat := 112
/- cmp.isNaN[proofmark/term.ID] -/
def zq32_0 : AT := (.rd (some 2) none (.mov (.c (.bool false)))
 .done)
def zq32_1 : AT := (.rd (some 3) none (.mov (.t 0))
 (.rd (some 4) none (.mov (.t 0))
 (.rd (some 5) none (.bin .neq (.t 3) (.t 4))
 (.rd (some 2) none (.mov (.t 5))
 .done))))
def cmp_isNaN_term_ID : AF := ⟨6, [.tmp 2],
  (.seq (.reg zq32_0 [])
  (.seq (.reg zq32_1 [3, 4, 5])
  .ret))⟩
abbrev n_cmp_isNaN_term_ID : Nat := 113
abbrev n_slices_order2Ordered_int64 : Nat := 114
/- internal/strconv.log10Pow2 -/
def zq34_0 : AT := (.rd (some 2) none (.mov (.c (.int .i64 0)))
 .done)
def zq34_1 : AT := (.rd (some 3) none (.mov (.t 0))
 (.rd (some 4) none (.bin .mul (.t 3) (.c (.int .i64 78913)))
 (.rd (some 5) none (.bin .shr (.t 4) (.c (.int .u64 18)))
 (.rd (some 2) none (.mov (.t 5))
 .done))))
def internal_strconv_log10Pow2 : AF := ⟨6, [.tmp 2],
  (.seq (.reg zq34_0 [])
  (.seq (.reg zq34_1 [3, 4, 5])
  .ret))⟩
abbrev n_internal_strconv_log10Pow2 : Nat := 115
/- internal/strconv.bool2[int] -/
def zq35_0 : AT := (.rd (some 2) none (.mov (.c (.int .i64 0)))
 .done)
def zq35_1 : AT := (.rd (some 3) none (.mov (.t 0))
 .done)
def zq35_2 : AT := (.rd (some 2) none (.mov (.c (.int .i64 1)))
 .done)
def zq35_3 : AT := (.rd (some 2) none (.mov (.c (.int .i64 0)))
 .done)
def internal_strconv_bool2_int : AF := ⟨4, [.tmp 2],
  (.seq (.reg zq35_0 [])
  (.seq (.seq (.reg zq35_1 [])
  (.cond (.t 3)
  (.seq (.reg zq35_2 [])
  .ret)
  .skip))
  (.seq (.reg zq35_3 [])
  .ret)))⟩
abbrev n_internal_strconv_bool2_int : Nat := 116
/- internal/strconv.isPowerOfTwo -/
def zq36_0 : AT := (.rd (some 2) none (.mov (.c (.bool false)))
 .done)
def zq36_1 : AT := (.rd (some 3) none (.mov (.t 0))
 (.rd (some 4) none (.mov (.t 0))
 (.rd (some 5) none (.bin .sub (.t 4) (.c (.int .i64 1)))
 (.rd (some 6) none (.bin .and (.t 3) (.t 5))
 (.rd (some 7) none (.bin .eql (.t 6) (.c (.int .i64 0)))
 (.rd (some 2) none (.mov (.t 7))
 .done))))))
def internal_strconv_isPowerOfTwo : AF := ⟨8, [.tmp 2],
  (.seq (.reg zq36_0 [])
  (.seq (.reg zq36_1 [3, 4, 5, 6, 7])
  .ret))⟩
abbrev n_internal_strconv_isPowerOfTwo : Nat := 117
/- math/bits.TrailingZeros -/
def zq37_0 : AT := (.rd (some 2) none (.mov (.c (.int .i64 0)))
 .done)
def zq37_1 : AT := (.rd (some 3) none (.mov (.t 0))
 (.rd (some 4) none (.conv .u32 (.t 3))
 (.cl false (some 5) none (.c (.fn (.func 120) [] [])) [(.t 4)]
 (.rd (some 2) none (.mov (.t 5))
 .done))))
def zq37_2 : AT := (.rd (some 6) none (.mov (.t 0))
 (.cl false (some 7) none (.c (.fn (.func 121) [] [])) [(.t 6)]
 (.rd (some 2) none (.mov (.t 7))
 .done)))
def math_bits_TrailingZeros : AF := ⟨8, [.tmp 2],
  (.seq (.reg zq37_0 [])
  (.seq (.cond (.c (.bool false))
  (.seq (.reg zq37_1 [3, 4, 5])
  .ret)
  .skip)
  (.seq (.reg zq37_2 [6, 7])
  .ret)))⟩
abbrev n_math_bits_TrailingZeros : Nat := 118
abbrev n_slices_order2Ordered_term_ID : Nat := 119
/- math/bits.TrailingZeros32 -/
def zq39_0 : AT := (.rd (some 2) none (.mov (.c (.int .i64 0)))
 .done)
def zq39_1 : AT := (.rd (some 3) none (.mov (.t 0))
 (.rd (some 4) none (.bin .eql (.t 3) (.c (.int .u32 0)))
 .done))
def zq39_2 : AT := (.rd (some 2) none (.mov (.c (.int .i64 32)))
 .done)
def zq39_3 : AT := (.rd (some 5) none (.mov (.t 0))
 (.rd (some 6) none (.mov (.t 0))
 (.rd (some 7) none (.un .neg (.t 6))
 (.rd (some 8) none (.bin .and (.t 5) (.t 7))
 (.rd (some 9) none (.bin .mul (.t 8) (.c (.int .u32 125613361)))
 (.rd (some 10) none (.bin .shr (.t 9) (.c (.int .u64 27)))
 (.rd (some 11) none (.iaddr (some 32) 1 (.g 1) (.t 10))
 (.rd (some 12) none (.load false 1 (.t 11))
 (.rd (some 13) none (.conv .i64 (.t 12))
 (.rd (some 2) none (.mov (.t 13))
 .done))))))))))
def math_bits_TrailingZeros32 : AF := ⟨14, [.tmp 2],
  (.seq (.reg zq39_0 [])
  (.seq (.seq (.reg zq39_1 [3])
  (.cond (.t 4)
  (.seq (.reg zq39_2 [])
  .ret)
  .skip))
  (.seq (.reg zq39_3 [5, 6, 7, 8, 9, 10, 11, 12, 13])
  .ret)))⟩
abbrev n_math_bits_TrailingZeros32 : Nat := 120
/- math/bits.TrailingZeros64 -/
def zq3a_0 : AT := (.rd (some 2) none (.mov (.c (.int .i64 0)))
 .done)
def zq3a_1 : AT := (.rd (some 3) none (.mov (.t 0))
 (.rd (some 4) none (.bin .eql (.t 3) (.c (.int .u64 0)))
 .done))
def zq3a_2 : AT := (.rd (some 2) none (.mov (.c (.int .i64 64)))
 .done)
def zq3a_3 : AT := (.rd (some 5) none (.mov (.t 0))
 (.rd (some 6) none (.mov (.t 0))
 (.rd (some 7) none (.un .neg (.t 6))
 (.rd (some 8) none (.bin .and (.t 5) (.t 7))
 (.rd (some 9) none (.bin .mul (.t 8) (.c (.int .u64 285870213051353865)))
 (.rd (some 10) none (.bin .shr (.t 9) (.c (.int .u64 58)))
 (.rd (some 11) none (.iaddr (some 64) 1 (.g 2) (.t 10))
 (.rd (some 12) none (.load false 1 (.t 11))
 (.rd (some 13) none (.conv .i64 (.t 12))
 (.rd (some 2) none (.mov (.t 13))
 .done))))))))))
def math_bits_TrailingZeros64 : AF := ⟨14, [.tmp 2],
  (.seq (.reg zq3a_0 [])
  (.seq (.seq (.reg zq3a_1 [3])
  (.cond (.t 4)
  (.seq (.reg zq3a_2 [])
  .ret)
  .skip))
  (.seq (.reg zq3a_3 [5, 6, 7, 8, 9, 10, 11, 12, 13])
  .ret)))⟩
abbrev n_math_bits_TrailingZeros64 : Nat := 121
abbrev n_gosem_cut_vars : Nat := 144
def tab : Nat → Option AF
  | 3 => some proofmarklaw03_ValueOf
  | 4 => some proofmarklaw03_ValueKnown
  | 5 => some proofmarklaw03_few
  | 6 => some proofmarklaw03_works
  | 7 => some proofmarkkit_Made
  | 8 => some proofmarkkit_Plain
  | 9 => some proofmarkkit_PlainEnv
  | 10 => some value_Env_Sym
  | 11 => some proofmarkref03_Env_Sym
  | 12 => some value_Env_Cell
  | 13 => some proofmarkref03_Env_Cell
  | 14 => some proofmarkref03_All
  | 15 => some value_Of
  | 16 => some value_All
  | 17 => some proofmarklaw03_ValueNeeds
  | 18 => some proofmarklaw03_ValueNeeded
  | 19 => some value_Needs
  | 20 => some term_New
  | 21 => some term_Graph_Add
  | 22 => some term_Graph_Size
  | 23 => some term_Graph_Node
  | 24 => some proofmarkkit_PlainNode
  | 25 => some slices_IndexFunc_value_Cell_value_Cell
  | 26 => some value_Env_Cell_S1
  | 27 => some proofmarkref01_Do
  | 28 => some value_All_S1
  | 29 => some word_Do
  | 30 => some term_Graph_Uses
  | 31 => some proofmarkref03_Needs
  | 32 => some proofmarklaw03_has
  | 33 => some slices_Sort_int64_int64
  | 34 => some term_Graph_may
  | 35 => some term_words
  | 36 => some term_parts
  | 37 => some term_Graph_is
  | 38 => some proofmarkref01_add
  | 39 => some proofmarkref01_neg
  | 40 => some proofmarkref01_mul
  | 41 => some proofmarkref01_quotients
  | 42 => some proofmarkref01_moved
  | 43 => some proofmarkref01_bit
  | 44 => some proofmarkref01_one
  | 45 => some proofmarkref01_below
  | 46 => some word_of
  | 47 => some term_Graph_Uses_S1
  | 48 => some slices_Sort_term_ID_term_ID
  | 49 => some proofmarkref02_Graph_Uses
  | 50 => some slices_pdqsortOrdered_int64
  | 51 => some math_bits_Len
  | 52 => some term_bare
  | 53 => some strconv_FormatInt
  | 54 => some strconv_Itoa
  | 55 => some term_sign
  | 56 => some proofmarkref01_divide
  | 57 => some proofmarkref01_signed
  | 58 => some word_of_S1
  | 59 => some word_of_S2
  | 60 => some word_of_S3
  | 61 => some word_div
  | 62 => some word_rem
  | 63 => some word_divU
  | 64 => some word_remU
  | 65 => some word_of_S4
  | 66 => some word_of_S5
  | 67 => some word_of_S6
  | 68 => some word_of_S7
  | 69 => some word_of_S8
  | 70 => some word_of_S9
  | 71 => some word_of_S10
  | 72 => some word_one
  | 73 => some word_of_S11
  | 74 => some word_of_S12
  | 75 => some slices_pdqsortOrdered_term_ID
  | 76 => some proofmarkref02_has
  | 77 => some proofmarkref02_Graph_uses
  | 78 => some slices_insertionSortOrdered_int64
  | 84 => some cmp_Less_int64
  | 87 => some math_bits_Len32
  | 88 => some math_bits_Len64
  | 89 => some internal_strconv_FormatInt
  | 90 => some internal_strconv_Itoa
  | 91 => some slices_insertionSortOrdered_term_ID
  | 97 => some cmp_Less_term_ID
  | 105 => some cmp_isNaN_int64
  | 106 => some internal_strconv_small
  | 107 => some internal_strconv_numDigits
  | 113 => some cmp_isNaN_term_ID
  | 115 => some internal_strconv_log10Pow2
  | 116 => some internal_strconv_bool2_int
  | 117 => some internal_strconv_isPowerOfTwo
  | 118 => some math_bits_TrailingZeros
  | 120 => some math_bits_TrailingZeros32
  | 121 => some math_bits_TrailingZeros64
  | _ => none
theorem t_proofmarklaw03_ValueOf : tab n_proofmarklaw03_ValueOf = some proofmarklaw03_ValueOf := rfl
theorem t_proofmarklaw03_ValueKnown : tab n_proofmarklaw03_ValueKnown = some proofmarklaw03_ValueKnown := rfl
theorem t_proofmarklaw03_few : tab n_proofmarklaw03_few = some proofmarklaw03_few := rfl
theorem t_proofmarklaw03_works : tab n_proofmarklaw03_works = some proofmarklaw03_works := rfl
theorem t_proofmarkkit_Made : tab n_proofmarkkit_Made = some proofmarkkit_Made := rfl
theorem t_proofmarkkit_Plain : tab n_proofmarkkit_Plain = some proofmarkkit_Plain := rfl
theorem t_proofmarkkit_PlainEnv : tab n_proofmarkkit_PlainEnv = some proofmarkkit_PlainEnv := rfl
theorem t_value_Env_Sym : tab n_value_Env_Sym = some value_Env_Sym := rfl
theorem t_proofmarkref03_Env_Sym : tab n_proofmarkref03_Env_Sym = some proofmarkref03_Env_Sym := rfl
theorem t_value_Env_Cell : tab n_value_Env_Cell = some value_Env_Cell := rfl
theorem t_proofmarkref03_Env_Cell : tab n_proofmarkref03_Env_Cell = some proofmarkref03_Env_Cell := rfl
theorem t_proofmarkref03_All : tab n_proofmarkref03_All = some proofmarkref03_All := rfl
theorem t_value_Of : tab n_value_Of = some value_Of := rfl
theorem t_value_All : tab n_value_All = some value_All := rfl
theorem t_proofmarklaw03_ValueNeeds : tab n_proofmarklaw03_ValueNeeds = some proofmarklaw03_ValueNeeds := rfl
theorem t_proofmarklaw03_ValueNeeded : tab n_proofmarklaw03_ValueNeeded = some proofmarklaw03_ValueNeeded := rfl
theorem t_value_Needs : tab n_value_Needs = some value_Needs := rfl
theorem t_term_New : tab n_term_New = some term_New := rfl
theorem t_term_Graph_Add : tab n_term_Graph_Add = some term_Graph_Add := rfl
theorem t_term_Graph_Size : tab n_term_Graph_Size = some term_Graph_Size := rfl
theorem t_term_Graph_Node : tab n_term_Graph_Node = some term_Graph_Node := rfl
theorem t_proofmarkkit_PlainNode : tab n_proofmarkkit_PlainNode = some proofmarkkit_PlainNode := rfl
theorem t_slices_IndexFunc_value_Cell_value_Cell : tab n_slices_IndexFunc_value_Cell_value_Cell = some slices_IndexFunc_value_Cell_value_Cell := rfl
theorem t_value_Env_Cell_S1 : tab n_value_Env_Cell_S1 = some value_Env_Cell_S1 := rfl
theorem t_proofmarkref01_Do : tab n_proofmarkref01_Do = some proofmarkref01_Do := rfl
theorem t_value_All_S1 : tab n_value_All_S1 = some value_All_S1 := rfl
theorem t_word_Do : tab n_word_Do = some word_Do := rfl
theorem t_term_Graph_Uses : tab n_term_Graph_Uses = some term_Graph_Uses := rfl
theorem t_proofmarkref03_Needs : tab n_proofmarkref03_Needs = some proofmarkref03_Needs := rfl
theorem t_proofmarklaw03_has : tab n_proofmarklaw03_has = some proofmarklaw03_has := rfl
theorem t_slices_Sort_int64_int64 : tab n_slices_Sort_int64_int64 = some slices_Sort_int64_int64 := rfl
theorem t_term_Graph_may : tab n_term_Graph_may = some term_Graph_may := rfl
theorem t_term_words : tab n_term_words = some term_words := rfl
theorem t_term_parts : tab n_term_parts = some term_parts := rfl
theorem t_term_Graph_is : tab n_term_Graph_is = some term_Graph_is := rfl
theorem t_proofmarkref01_add : tab n_proofmarkref01_add = some proofmarkref01_add := rfl
theorem t_proofmarkref01_neg : tab n_proofmarkref01_neg = some proofmarkref01_neg := rfl
theorem t_proofmarkref01_mul : tab n_proofmarkref01_mul = some proofmarkref01_mul := rfl
theorem t_proofmarkref01_quotients : tab n_proofmarkref01_quotients = some proofmarkref01_quotients := rfl
theorem t_proofmarkref01_moved : tab n_proofmarkref01_moved = some proofmarkref01_moved := rfl
theorem t_proofmarkref01_bit : tab n_proofmarkref01_bit = some proofmarkref01_bit := rfl
theorem t_proofmarkref01_one : tab n_proofmarkref01_one = some proofmarkref01_one := rfl
theorem t_proofmarkref01_below : tab n_proofmarkref01_below = some proofmarkref01_below := rfl
theorem t_word_of : tab n_word_of = some word_of := rfl
theorem t_term_Graph_Uses_S1 : tab n_term_Graph_Uses_S1 = some term_Graph_Uses_S1 := rfl
theorem t_slices_Sort_term_ID_term_ID : tab n_slices_Sort_term_ID_term_ID = some slices_Sort_term_ID_term_ID := rfl
theorem t_proofmarkref02_Graph_Uses : tab n_proofmarkref02_Graph_Uses = some proofmarkref02_Graph_Uses := rfl
theorem t_slices_pdqsortOrdered_int64 : tab n_slices_pdqsortOrdered_int64 = some slices_pdqsortOrdered_int64 := rfl
theorem t_math_bits_Len : tab n_math_bits_Len = some math_bits_Len := rfl
theorem t_term_bare : tab n_term_bare = some term_bare := rfl
theorem t_strconv_FormatInt : tab n_strconv_FormatInt = some strconv_FormatInt := rfl
theorem t_strconv_Itoa : tab n_strconv_Itoa = some strconv_Itoa := rfl
theorem t_term_sign : tab n_term_sign = some term_sign := rfl
theorem t_proofmarkref01_divide : tab n_proofmarkref01_divide = some proofmarkref01_divide := rfl
theorem t_proofmarkref01_signed : tab n_proofmarkref01_signed = some proofmarkref01_signed := rfl
theorem t_word_of_S1 : tab n_word_of_S1 = some word_of_S1 := rfl
theorem t_word_of_S2 : tab n_word_of_S2 = some word_of_S2 := rfl
theorem t_word_of_S3 : tab n_word_of_S3 = some word_of_S3 := rfl
theorem t_word_div : tab n_word_div = some word_div := rfl
theorem t_word_rem : tab n_word_rem = some word_rem := rfl
theorem t_word_divU : tab n_word_divU = some word_divU := rfl
theorem t_word_remU : tab n_word_remU = some word_remU := rfl
theorem t_word_of_S4 : tab n_word_of_S4 = some word_of_S4 := rfl
theorem t_word_of_S5 : tab n_word_of_S5 = some word_of_S5 := rfl
theorem t_word_of_S6 : tab n_word_of_S6 = some word_of_S6 := rfl
theorem t_word_of_S7 : tab n_word_of_S7 = some word_of_S7 := rfl
theorem t_word_of_S8 : tab n_word_of_S8 = some word_of_S8 := rfl
theorem t_word_of_S9 : tab n_word_of_S9 = some word_of_S9 := rfl
theorem t_word_of_S10 : tab n_word_of_S10 = some word_of_S10 := rfl
theorem t_word_one : tab n_word_one = some word_one := rfl
theorem t_word_of_S11 : tab n_word_of_S11 = some word_of_S11 := rfl
theorem t_word_of_S12 : tab n_word_of_S12 = some word_of_S12 := rfl
theorem t_slices_pdqsortOrdered_term_ID : tab n_slices_pdqsortOrdered_term_ID = some slices_pdqsortOrdered_term_ID := rfl
theorem t_proofmarkref02_has : tab n_proofmarkref02_has = some proofmarkref02_has := rfl
theorem t_proofmarkref02_Graph_uses : tab n_proofmarkref02_Graph_uses = some proofmarkref02_Graph_uses := rfl
theorem t_slices_insertionSortOrdered_int64 : tab n_slices_insertionSortOrdered_int64 = some slices_insertionSortOrdered_int64 := rfl
theorem t_cmp_Less_int64 : tab n_cmp_Less_int64 = some cmp_Less_int64 := rfl
theorem t_math_bits_Len32 : tab n_math_bits_Len32 = some math_bits_Len32 := rfl
theorem t_math_bits_Len64 : tab n_math_bits_Len64 = some math_bits_Len64 := rfl
theorem t_internal_strconv_FormatInt : tab n_internal_strconv_FormatInt = some internal_strconv_FormatInt := rfl
theorem t_internal_strconv_Itoa : tab n_internal_strconv_Itoa = some internal_strconv_Itoa := rfl
theorem t_slices_insertionSortOrdered_term_ID : tab n_slices_insertionSortOrdered_term_ID = some slices_insertionSortOrdered_term_ID := rfl
theorem t_cmp_Less_term_ID : tab n_cmp_Less_term_ID = some cmp_Less_term_ID := rfl
theorem t_cmp_isNaN_int64 : tab n_cmp_isNaN_int64 = some cmp_isNaN_int64 := rfl
theorem t_internal_strconv_small : tab n_internal_strconv_small = some internal_strconv_small := rfl
theorem t_internal_strconv_numDigits : tab n_internal_strconv_numDigits = some internal_strconv_numDigits := rfl
theorem t_cmp_isNaN_term_ID : tab n_cmp_isNaN_term_ID = some cmp_isNaN_term_ID := rfl
theorem t_internal_strconv_log10Pow2 : tab n_internal_strconv_log10Pow2 = some internal_strconv_log10Pow2 := rfl
theorem t_internal_strconv_bool2_int : tab n_internal_strconv_bool2_int = some internal_strconv_bool2_int := rfl
theorem t_internal_strconv_isPowerOfTwo : tab n_internal_strconv_isPowerOfTwo = some internal_strconv_isPowerOfTwo := rfl
theorem t_math_bits_TrailingZeros : tab n_math_bits_TrailingZeros = some math_bits_TrailingZeros := rfl
theorem t_math_bits_TrailingZeros32 : tab n_math_bits_TrailingZeros32 = some math_bits_TrailingZeros32 := rfl
theorem t_math_bits_TrailingZeros64 : tab n_math_bits_TrailingZeros64 = some math_bits_TrailingZeros64 := rfl
end Go.Proofs.YtfligilbnpcnaaaGreatDoor
