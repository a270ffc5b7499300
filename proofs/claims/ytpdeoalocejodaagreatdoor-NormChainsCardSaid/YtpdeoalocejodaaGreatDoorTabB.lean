/- The translations of the functions, by a program of mine. -/
import Derived.Test.YtpdeoalocejodaaGreatDoorTabA
namespace Go.Proofs.YtpdeoalocejodaaGreatDoor
open Go Go.Am
set_option maxRecDepth 100000
/- (proofmark/norm.maker).number -/
def zq1n_0 : AT := (.wr false (some 4) none (.box 76 (.t 0))
 (.rd (some 8) none (.mov (.c (.int .i64 0)))
 .done))
def zq1n_1 : AT := (.rd (some 14) none (.mkfn (.func 91) [] [(.t 4)])
 (.rd (some 9) none (.mov (.t 14))
 .done))
def zq1n_2 : AT := (.rd (some 15) none (.mkfn (.func 93) [] [(.t 4)])
 (.rd (some 10) none (.mov (.t 15))
 .done))
def zq1n_3 : AT := (.rd (some 16) none (.load true 1 (.t 4))
 (.rd (some 17) none (.mkfn (.func 95) [(.t 16)] [])
 (.rd (some 18) none (.load true 1 (.t 4))
 (.rd (some 19) none (.mkfn (.func 96) [(.t 18)] [])
 (.rd (some 20) none (.load true 1 (.t 4))
 (.rd (some 21) none (.mkfn (.func 97) [(.t 20)] [])
 (.rd (some 22) none (.mov (.t 9))
 (.rd (some 23) none (.mov (.t 10))
 (.wr false (some 24) none (.bsl true false 107 1 [(.val .nilFunc)] 5 [(0, 1, (.t 17)), (1, 1, (.t 19)), (2, 1, (.t 21)), (3, 1, (.t 22)), (4, 1, (.t 23))])
 (.rd (some 25) none (.len 0 (.t 24))
 (.rd (some 26) none (.mov (.c (.int .i64 0)))
 .done)))))))))))
def zq1n_4 : AT := (.rd (some 27) none (.bin .lss (.t 26) (.t 25))
 .done)
def zq1n_5 : AT := (.rd (some 28) none (.iaddr none 1 (.t 24) (.t 26))
 (.rd (some 29) none (.load false 1 (.t 28))
 (.rd (some 12) none (.mov (.t 29))
 .done)))
def zq1n_6 : AT := (.rd (some 30) none (.mov (.t 12))
 (.rd (some 31) none (.mov (.t 1))
 (.rd (some 32) none (.mov (.t 2))
 (.rd (some 33) none (.mov (.t 3))
 (.cl false (some 34) none (.t 30) [(.t 31), (.t 32), (.t 33)]
 (.rd (some 13) none (.mov (.t 34))
 .done))))))
def zq1n_7 : AT := (.rd (some 35) none (.mov (.t 13))
 (.rd (some 36) none (.bin .neq (.t 35) (.c (.int .i64 (-1))))
 .done))
def zq1n_8 : AT := (.rd (some 37) none (.mov (.t 13))
 (.rd (some 8) none (.mov (.t 37))
 .done))
def zq1n_9 : AT := (.rd (some 38) none (.bin .add (.t 26) (.c (.int .i64 1)))
 (.rd (some 26) none (.mov (.t 38))
 .done))
def zq1n_10 : AT := (.rd (some 8) none (.mov (.c (.int .i64 (-1))))
 .done)
def norm_maker_number : AF := ⟨39, [.tmp 8],
  (.seq (.reg zq1n_0 [])
  (.seq (.reg zq1n_1 [14])
  (.seq (.reg zq1n_2 [15])
  (.seq (.seq (.reg zq1n_3 [16, 17, 18, 19, 20, 21, 22, 23])
  (.block 0 (.loop (.seq (.reg zq1n_4 [])
  (.seq (.cond (.t 27)
  .skip
  (.exit 0))
  (.seq (.block 1 (.seq (.reg zq1n_5 [28, 29])
  (.seq (.reg zq1n_6 [30, 31, 32, 33, 34])
  (.seq (.reg zq1n_7 [35])
  (.cond (.t 36)
  (.seq (.reg zq1n_8 [37])
  .ret)
  .skip)))))
  (.reg zq1n_9 [38])))))))
  (.seq (.reg zq1n_10 [])
  .ret)))))⟩
abbrev n_norm_maker_number : Nat := 62
/- proofmark/word.of$1 -/
def zq1o_0 : AT := (.rd (some 4) none (.mov (.c (.int .i64 0)))
 .done)
def zq1o_1 : AT := (.rd (some 5) none (.mov (.t 0))
 (.rd (some 6) none (.mov (.t 1))
 (.rd (some 7) none (.bin .add (.t 5) (.t 6))
 (.rd (some 4) none (.mov (.t 7))
 .done))))
def word_of_S1 : AF := ⟨8, [.tmp 4],
  (.seq (.reg zq1o_0 [])
  (.seq (.reg zq1o_1 [5, 6, 7])
  .ret))⟩
abbrev n_word_of_S1 : Nat := 63
/- proofmark/word.of$2 -/
def zq1p_0 : AT := (.rd (some 4) none (.mov (.c (.int .i64 0)))
 .done)
def zq1p_1 : AT := (.rd (some 5) none (.mov (.t 0))
 (.rd (some 6) none (.mov (.t 1))
 (.rd (some 7) none (.bin .sub (.t 5) (.t 6))
 (.rd (some 4) none (.mov (.t 7))
 .done))))
def word_of_S2 : AF := ⟨8, [.tmp 4],
  (.seq (.reg zq1p_0 [])
  (.seq (.reg zq1p_1 [5, 6, 7])
  .ret))⟩
abbrev n_word_of_S2 : Nat := 64
/- proofmark/word.of$3 -/
def zq1q_0 : AT := (.rd (some 4) none (.mov (.c (.int .i64 0)))
 .done)
def zq1q_1 : AT := (.rd (some 5) none (.mov (.t 0))
 (.rd (some 6) none (.mov (.t 1))
 (.rd (some 7) none (.bin .mul (.t 5) (.t 6))
 (.rd (some 4) none (.mov (.t 7))
 .done))))
def word_of_S3 : AF := ⟨8, [.tmp 4],
  (.seq (.reg zq1q_0 [])
  (.seq (.reg zq1q_1 [5, 6, 7])
  .ret))⟩
abbrev n_word_of_S3 : Nat := 65
/- proofmark/word.div -/
def zq1r_0 : AT := (.rd (some 4) none (.mov (.c (.int .i64 0)))
 .done)
def zq1r_1 : AT := (.rd (some 5) none (.mov (.t 1))
 .done)
def zq1r_2 : AT := (.rd (some 7) none (.bin .eql (.t 5) (.c (.int .i64 0)))
 (.rd (some 6) none (.mov (.t 7))
 .done))
def zq1r_3 : AT := (.rd (some 4) none (.mov (.c (.int .i64 (-1))))
 .done)
def zq1r_4 : AT := (.rd (some 9) none (.bin .eql (.t 5) (.c (.int .i64 (-1))))
 (.rd (some 8) none (.mov (.t 9))
 .done))
def zq1r_5 : AT := (.rd (some 10) none (.mov (.t 0))
 (.rd (some 11) none (.un .neg (.t 10))
 (.rd (some 4) none (.mov (.t 11))
 .done)))
def zq1r_6 : AT := (.rd (some 12) none (.mov (.t 0))
 (.rd (some 13) none (.mov (.t 1))
 (.rd (some 14) none (.bin .quo (.t 12) (.t 13))
 (.rd (some 4) none (.mov (.t 14))
 .done))))
def word_div : AF := ⟨15, [.tmp 4],
  (.seq (.reg zq1r_0 [])
  (.seq (.seq (.reg zq1r_1 [])
  (.block 0 (.seq (.reg zq1r_2 [7])
  (.cond (.t 6)
  (.seq (.reg zq1r_3 [])
  .ret)
  (.seq (.reg zq1r_4 [9])
  (.cond (.t 8)
  (.seq (.reg zq1r_5 [10, 11])
  .ret)
  .skip))))))
  (.seq (.reg zq1r_6 [12, 13, 14])
  .ret)))⟩
abbrev n_word_div : Nat := 66
/- proofmark/word.rem -/
def zq1s_0 : AT := (.rd (some 4) none (.mov (.c (.int .i64 0)))
 .done)
def zq1s_1 : AT := (.rd (some 5) none (.mov (.t 1))
 .done)
def zq1s_2 : AT := (.rd (some 7) none (.bin .eql (.t 5) (.c (.int .i64 0)))
 (.rd (some 6) none (.mov (.t 7))
 .done))
def zq1s_3 : AT := (.rd (some 8) none (.mov (.t 0))
 (.rd (some 4) none (.mov (.t 8))
 .done))
def zq1s_4 : AT := (.rd (some 10) none (.bin .eql (.t 5) (.c (.int .i64 (-1))))
 (.rd (some 9) none (.mov (.t 10))
 .done))
def zq1s_5 : AT := (.rd (some 4) none (.mov (.c (.int .i64 0)))
 .done)
def zq1s_6 : AT := (.rd (some 11) none (.mov (.t 0))
 (.rd (some 12) none (.mov (.t 1))
 (.rd (some 13) none (.bin .rem (.t 11) (.t 12))
 (.rd (some 4) none (.mov (.t 13))
 .done))))
def word_rem : AF := ⟨14, [.tmp 4],
  (.seq (.reg zq1s_0 [])
  (.seq (.seq (.reg zq1s_1 [])
  (.block 0 (.seq (.reg zq1s_2 [7])
  (.cond (.t 6)
  (.seq (.reg zq1s_3 [8])
  .ret)
  (.seq (.reg zq1s_4 [10])
  (.cond (.t 9)
  (.seq (.reg zq1s_5 [])
  .ret)
  .skip))))))
  (.seq (.reg zq1s_6 [11, 12, 13])
  .ret)))⟩
abbrev n_word_rem : Nat := 67
/- proofmark/word.divU -/
def zq1t_0 : AT := (.rd (some 4) none (.mov (.c (.int .i64 0)))
 .done)
def zq1t_1 : AT := (.rd (some 5) none (.mov (.t 1))
 (.rd (some 6) none (.bin .eql (.t 5) (.c (.int .i64 0)))
 .done))
def zq1t_2 : AT := (.rd (some 4) none (.mov (.c (.int .i64 (-1))))
 .done)
def zq1t_3 : AT := (.rd (some 7) none (.mov (.t 0))
 (.rd (some 8) none (.conv .u64 (.t 7))
 (.rd (some 9) none (.mov (.t 1))
 (.rd (some 10) none (.conv .u64 (.t 9))
 (.rd (some 11) none (.bin .quo (.t 8) (.t 10))
 (.rd (some 12) none (.conv .i64 (.t 11))
 (.rd (some 4) none (.mov (.t 12))
 .done)))))))
def word_divU : AF := ⟨13, [.tmp 4],
  (.seq (.reg zq1t_0 [])
  (.seq (.seq (.reg zq1t_1 [5])
  (.cond (.t 6)
  (.seq (.reg zq1t_2 [])
  .ret)
  .skip))
  (.seq (.reg zq1t_3 [7, 8, 9, 10, 11, 12])
  .ret)))⟩
abbrev n_word_divU : Nat := 68
/- proofmark/word.remU -/
def zq1u_0 : AT := (.rd (some 4) none (.mov (.c (.int .i64 0)))
 .done)
def zq1u_1 : AT := (.rd (some 5) none (.mov (.t 1))
 (.rd (some 6) none (.bin .eql (.t 5) (.c (.int .i64 0)))
 .done))
def zq1u_2 : AT := (.rd (some 7) none (.mov (.t 0))
 (.rd (some 4) none (.mov (.t 7))
 .done))
def zq1u_3 : AT := (.rd (some 8) none (.mov (.t 0))
 (.rd (some 9) none (.conv .u64 (.t 8))
 (.rd (some 10) none (.mov (.t 1))
 (.rd (some 11) none (.conv .u64 (.t 10))
 (.rd (some 12) none (.bin .rem (.t 9) (.t 11))
 (.rd (some 13) none (.conv .i64 (.t 12))
 (.rd (some 4) none (.mov (.t 13))
 .done)))))))
def word_remU : AF := ⟨14, [.tmp 4],
  (.seq (.reg zq1u_0 [])
  (.seq (.seq (.reg zq1u_1 [5])
  (.cond (.t 6)
  (.seq (.reg zq1u_2 [7])
  .ret)
  .skip))
  (.seq (.reg zq1u_3 [8, 9, 10, 11, 12, 13])
  .ret)))⟩
abbrev n_word_remU : Nat := 69
/- proofmark/word.of$4 -/
def zq1v_0 : AT := (.rd (some 4) none (.mov (.c (.int .i64 0)))
 .done)
def zq1v_1 : AT := (.rd (some 5) none (.mov (.t 0))
 (.rd (some 6) none (.mov (.t 1))
 (.rd (some 7) none (.bin .and (.t 5) (.t 6))
 (.rd (some 4) none (.mov (.t 7))
 .done))))
def word_of_S4 : AF := ⟨8, [.tmp 4],
  (.seq (.reg zq1v_0 [])
  (.seq (.reg zq1v_1 [5, 6, 7])
  .ret))⟩
abbrev n_word_of_S4 : Nat := 70
/- proofmark/word.of$5 -/
def zq1w_0 : AT := (.rd (some 4) none (.mov (.c (.int .i64 0)))
 .done)
def zq1w_1 : AT := (.rd (some 5) none (.mov (.t 0))
 (.rd (some 6) none (.mov (.t 1))
 (.rd (some 7) none (.bin .or (.t 5) (.t 6))
 (.rd (some 4) none (.mov (.t 7))
 .done))))
def word_of_S5 : AF := ⟨8, [.tmp 4],
  (.seq (.reg zq1w_0 [])
  (.seq (.reg zq1w_1 [5, 6, 7])
  .ret))⟩
abbrev n_word_of_S5 : Nat := 71
/- proofmark/word.of$6 -/
def zq1x_0 : AT := (.rd (some 4) none (.mov (.c (.int .i64 0)))
 .done)
def zq1x_1 : AT := (.rd (some 5) none (.mov (.t 0))
 (.rd (some 6) none (.mov (.t 1))
 (.rd (some 7) none (.bin .xor (.t 5) (.t 6))
 (.rd (some 4) none (.mov (.t 7))
 .done))))
def word_of_S6 : AF := ⟨8, [.tmp 4],
  (.seq (.reg zq1x_0 [])
  (.seq (.reg zq1x_1 [5, 6, 7])
  .ret))⟩
abbrev n_word_of_S6 : Nat := 72
/- proofmark/word.of$7 -/
def zq1y_0 : AT := (.rd (some 4) none (.mov (.c (.int .i64 0)))
 .done)
def zq1y_1 : AT := (.rd (some 5) none (.mov (.t 0))
 (.rd (some 6) none (.mov (.t 1))
 (.rd (some 7) none (.bin .and (.t 6) (.c (.int .i64 63)))
 (.rd (some 8) none (.bin .shl (.t 5) (.t 7))
 (.rd (some 4) none (.mov (.t 8))
 .done)))))
def word_of_S7 : AF := ⟨9, [.tmp 4],
  (.seq (.reg zq1y_0 [])
  (.seq (.reg zq1y_1 [5, 6, 7, 8])
  .ret))⟩
abbrev n_word_of_S7 : Nat := 73
/- proofmark/word.of$8 -/
def zq1z_0 : AT := (.rd (some 4) none (.mov (.c (.int .i64 0)))
 .done)
def zq1z_1 : AT := (.rd (some 5) none (.mov (.t 0))
 (.rd (some 6) none (.conv .u64 (.t 5))
 (.rd (some 7) none (.mov (.t 1))
 (.rd (some 8) none (.bin .and (.t 7) (.c (.int .i64 63)))
 (.rd (some 9) none (.bin .shr (.t 6) (.t 8))
 (.rd (some 10) none (.conv .i64 (.t 9))
 (.rd (some 4) none (.mov (.t 10))
 .done)))))))
def word_of_S8 : AF := ⟨11, [.tmp 4],
  (.seq (.reg zq1z_0 [])
  (.seq (.reg zq1z_1 [5, 6, 7, 8, 9, 10])
  .ret))⟩
abbrev n_word_of_S8 : Nat := 74
/- proofmark/word.of$9 -/
def zq20_0 : AT := (.rd (some 4) none (.mov (.c (.int .i64 0)))
 .done)
def zq20_1 : AT := (.rd (some 5) none (.mov (.t 0))
 (.rd (some 6) none (.mov (.t 1))
 (.rd (some 7) none (.bin .and (.t 6) (.c (.int .i64 63)))
 (.rd (some 8) none (.bin .shr (.t 5) (.t 7))
 (.rd (some 4) none (.mov (.t 8))
 .done)))))
def word_of_S9 : AF := ⟨9, [.tmp 4],
  (.seq (.reg zq20_0 [])
  (.seq (.reg zq20_1 [5, 6, 7, 8])
  .ret))⟩
abbrev n_word_of_S9 : Nat := 75
/- proofmark/word.of$10 -/
def zq21_0 : AT := (.rd (some 4) none (.mov (.c (.int .i64 0)))
 .done)
def zq21_1 : AT := (.rd (some 5) none (.mov (.t 0))
 (.rd (some 6) none (.mov (.t 1))
 (.rd (some 7) none (.bin .lss (.t 5) (.t 6))
 (.cl false (some 8) none (.c (.fn (.func 77) [] [])) [(.t 7)]
 (.rd (some 4) none (.mov (.t 8))
 .done)))))
def word_of_S10 : AF := ⟨9, [.tmp 4],
  (.seq (.reg zq21_0 [])
  (.seq (.reg zq21_1 [5, 6, 7, 8])
  .ret))⟩
abbrev n_word_of_S10 : Nat := 76
/- proofmark/word.one -/
def zq22_0 : AT := (.rd (some 2) none (.mov (.c (.int .i64 0)))
 .done)
def zq22_1 : AT := (.rd (some 3) none (.mov (.t 0))
 .done)
def zq22_2 : AT := (.rd (some 2) none (.mov (.c (.int .i64 1)))
 .done)
def zq22_3 : AT := (.rd (some 2) none (.mov (.c (.int .i64 0)))
 .done)
def word_one : AF := ⟨4, [.tmp 2],
  (.seq (.reg zq22_0 [])
  (.seq (.seq (.reg zq22_1 [])
  (.cond (.t 3)
  (.seq (.reg zq22_2 [])
  .ret)
  .skip))
  (.seq (.reg zq22_3 [])
  .ret)))⟩
abbrev n_word_one : Nat := 77
/- proofmark/word.of$11 -/
def zq23_0 : AT := (.rd (some 4) none (.mov (.c (.int .i64 0)))
 .done)
def zq23_1 : AT := (.rd (some 5) none (.mov (.t 0))
 (.rd (some 6) none (.conv .u64 (.t 5))
 (.rd (some 7) none (.mov (.t 1))
 (.rd (some 8) none (.conv .u64 (.t 7))
 (.rd (some 9) none (.bin .lss (.t 6) (.t 8))
 (.cl false (some 10) none (.c (.fn (.func 77) [] [])) [(.t 9)]
 (.rd (some 4) none (.mov (.t 10))
 .done)))))))
def word_of_S11 : AF := ⟨11, [.tmp 4],
  (.seq (.reg zq23_0 [])
  (.seq (.reg zq23_1 [5, 6, 7, 8, 9, 10])
  .ret))⟩
abbrev n_word_of_S11 : Nat := 78
/- proofmark/word.of$12 -/
def zq24_0 : AT := (.rd (some 4) none (.mov (.c (.int .i64 0)))
 .done)
def zq24_1 : AT := (.rd (some 5) none (.mov (.t 0))
 (.rd (some 6) none (.mov (.t 1))
 (.rd (some 7) none (.bin .eql (.t 5) (.t 6))
 (.cl false (some 8) none (.c (.fn (.func 77) [] [])) [(.t 7)]
 (.rd (some 4) none (.mov (.t 8))
 .done)))))
def word_of_S12 : AF := ⟨9, [.tmp 4],
  (.seq (.reg zq24_0 [])
  (.seq (.reg zq24_1 [5, 6, 7, 8])
  .ret))⟩
abbrev n_word_of_S12 : Nat := 79
abbrev n_value_All_S1 : Nat := 80
abbrev n_value_Env_Sym : Nat := 81
abbrev n_value_Env_Cell : Nat := 82
abbrev n_proofmarkref01_divide : Nat := 83
abbrev n_proofmarkref01_signed : Nat := 84
/- (*proofmark/term.Graph).Uses$1 -/
def zq2a_0 : AT := (.rd (some 8) none (.load false 1 (.t 1))
 (.rd (some 9) none (.mov (.t 0))
 (.cl false (some 10) none (.c (.fn (.func 46) [] [])) [(.t 8), (.t 9)]
 (.rd (some 11) none (.un .not (.t 10))
 (.rd (some 12) none (.mov (.t 11))
 (.rd (some 13) (some (12, false)) (.load false 1 (.t 2))
 (.rd (some 14) (some (12, false)) (.mov (.t 0))
 (.rd (some 15) (some (12, false)) (.look false false [.i] (.int .i64 0) (.t 13) (.t 14))
 (.rd (some 16) (some (12, false)) (.bin .gtr (.t 15) (.c (.int .i64 0)))
 (.rd (some 17) none (.pick (.t 12) (.c (.bool true)) (.t 16))
 .done))))))))))
def zq2a_1 : AT := (.rd (some 18) none (.load false 1 (.t 2))
 (.rd (some 19) none (.mov (.t 0))
 (.wr false none none (.mapup false [.i] (.t 18) (.t 19) (.c (.int .i64 1)))
 .done)))
def zq2a_2 : AT := (.rd (some 20) none (.load false 1 (.t 3))
 (.rd (some 21) none (.mov (.t 0))
 (.wr false (some 22) none (.bsl false false 26 1 [(.int .i64 0)] 1 [(0, 1, (.t 21))])
 (.wr false (some 23) none (.app 26 1 8 false (.t 20) (.t 22))
 (.wr false none none (.store 1 (.t 3) (.t 23))
 .done)))))
def zq2a_3 : AT := (.rd (some 24) none (.load false 1 (.t 1))
 (.rd (some 25) none (.nilc (.t 24))
 (.rd (some 26) none (.faddr 0 (.t 25))
 (.rd (some 27) none (.load false 1 (.t 26))
 (.rd (some 28) none (.mov (.t 0))
 (.rd (some 29) none (.iaddr none 6 (.t 27) (.t 28))
 (.rd (some 30) none (.load true 6 (.t 29))
 (.cl false (some 31) none (.c (.fn (.func 59) [] [])) [(.t 30)]
 (.rd (some 32) none (.len 0 (.t 31))
 (.rd (some 33) none (.mov (.c (.int .i64 0)))
 .done))))))))))
def zq2a_4 : AT := (.rd (some 34) none (.bin .lss (.t 33) (.t 32))
 .done)
def zq2a_5 : AT := (.rd (some 35) none (.iaddr none 1 (.t 31) (.t 33))
 (.rd (some 36) none (.load false 1 (.t 35))
 (.rd (some 7) none (.mov (.t 36))
 .done)))
def zq2a_6 : AT := (.rd (some 37) none (.load false 1 (.t 4))
 (.rd (some 38) none (.mov (.t 7))
 (.cl false (some 39) none (.t 37) [(.t 38)]
 .done)))
def zq2a_7 : AT := (.rd (some 40) none (.bin .add (.t 33) (.c (.int .i64 1)))
 (.rd (some 33) none (.mov (.t 40))
 .done))
def term_Graph_Uses_S1 : AF := ⟨41, [],
  (.seq (.seq (.reg zq2a_0 [8, 9, 10, 11, 12, 13, 14, 15, 16])
  (.cond (.t 17)
  .ret
  .skip))
  (.seq (.reg zq2a_1 [18, 19])
  (.seq (.reg zq2a_2 [20, 21, 22, 23])
  (.seq (.reg zq2a_3 [24, 25, 26, 27, 28, 29, 30])
  (.block 0 (.loop (.seq (.reg zq2a_4 [])
  (.seq (.cond (.t 34)
  .skip
  (.exit 0))
  (.seq (.block 1 (.seq (.reg zq2a_5 [35, 36])
  (.reg zq2a_6 [37, 38, 39])))
  (.reg zq2a_7 [40]))))))))))⟩
abbrev n_term_Graph_Uses_S1 : Nat := 85
/- slices.Sort[[]proofmark/term.ID,proofmark/term.ID] -/
def zq2b_0 : AT := (.rd (some 3) none (.mov (.t 0))
 (.rd (some 4) none (.len 0 (.t 3))
 (.rd (some 2) none (.mov (.t 4))
 .done)))
def zq2b_1 : AT := (.rd (some 5) none (.mov (.t 0))
 (.rd (some 6) none (.mov (.t 2))
 (.rd (some 7) none (.mov (.t 2))
 (.rd (some 8) none (.conv .u64 (.t 7))
 (.cl false (some 9) none (.c (.fn (.func 101) [] [])) [(.t 8)]
 (.cl false (some 10) none (.c (.fn (.func 100) [] [])) [(.t 5), (.c (.int .i64 0)), (.t 6), (.t 9)]
 .done))))))
def slices_Sort_term_ID_term_ID : AF := ⟨11, [],
  (.seq (.reg zq2b_0 [3, 4])
  (.reg zq2b_1 [5, 6, 7, 8, 9, 10]))⟩
abbrev n_slices_Sort_term_ID_term_ID : Nat := 86
/- strconv.FormatInt -/
def zq2c_0 : AT := (.rd (some 4) none (.mov (.c (.str [])))
 .done)
def zq2c_1 : AT := (.rd (some 5) none (.mov (.t 0))
 (.rd (some 6) none (.mov (.t 1))
 (.cl false (some 7) none (.c (.fn (.func 102) [] [])) [(.t 5), (.t 6)]
 (.rd (some 4) none (.mov (.t 7))
 .done))))
def strconv_FormatInt : AF := ⟨8, [.tmp 4],
  (.seq (.reg zq2c_0 [])
  (.seq (.reg zq2c_1 [5, 6, 7])
  .ret))⟩
abbrev n_strconv_FormatInt : Nat := 87
/- strconv.Itoa -/
def zq2d_0 : AT := (.rd (some 2) none (.mov (.c (.str [])))
 .done)
def zq2d_1 : AT := (.rd (some 3) none (.mov (.t 0))
 (.cl false (some 4) none (.c (.fn (.func 103) [] [])) [(.t 3)]
 (.rd (some 2) none (.mov (.t 4))
 .done)))
def strconv_Itoa : AF := ⟨5, [.tmp 2],
  (.seq (.reg zq2d_0 [])
  (.seq (.reg zq2d_1 [3, 4])
  .ret))⟩
abbrev n_strconv_Itoa : Nat := 88
/- proofmark/term.sign -/
def zq2e_0 : AT := (.rd (some 2) none (.mov (.c (.str [])))
 .done)
def zq2e_1 : AT := (.rd (some 3) none (.build (List.replicate 17 [(.str [])]).flatten [(0, 1, (.c (.str []))), (1, 1, (.c (.str [43]))), (2, 1, (.c (.str [45]))), (3, 1, (.c (.str [42]))), (4, 1, (.c (.str [47]))), (5, 1, (.c (.str [37]))), (6, 1, (.c (.str [47, 117]))), (7, 1, (.c (.str [37, 117]))), (8, 1, (.c (.str [38]))), (9, 1, (.c (.str [124]))), (10, 1, (.c (.str [94]))), (11, 1, (.c (.str [60, 60]))), (12, 1, (.c (.str [62, 62, 117]))), (13, 1, (.c (.str [62, 62]))), (14, 1, (.c (.str [60]))), (15, 1, (.c (.str [60, 117]))), (16, 1, (.c (.str [61, 61])))])
 (.rd (some 4) none (.mov (.t 0))
 (.rd (some 5) none (.aidx false 1 17 (.t 3) (.t 4))
 (.rd (some 2) none (.mov (.t 5))
 .done))))
def term_sign : AF := ⟨6, [.tmp 2],
  (.seq (.reg zq2e_0 [])
  (.seq (.reg zq2e_1 [3, 4, 5])
  .ret))⟩
abbrev n_term_sign : Nat := 89
/- proofmark/term.bare -/
def zq2f_0 : AT := (.wr false (some 1) none (.box 57 (.t 0))
 (.wr false (some 2) none (.new 57 [(.int .u8 0), (.int .i64 0), (.int .i64 0), (.int .u8 0), (.int .i64 0), (.int .i64 0)])
 .done))
def zq2f_1 : AT := (.rd (some 3) none (.faddr 0 (.t 1))
 (.rd (some 4) none (.load false 1 (.t 3))
 .done))
def zq2f_2 : AT := (.rd (some 6) none (.bin .eql (.t 4) (.c (.int .u8 1)))
 (.rd (some 5) none (.mov (.t 6))
 .done))
def zq2f_3 : AT := (.rd (some 7) none (.bin .eql (.t 4) (.c (.int .u8 2)))
 (.rd (some 5) none (.mov (.t 7))
 .done))
def zq2f_4 : AT := (.rd (some 8) none (.faddr 1 (.t 1))
 (.wr false none none (.store 1 (.t 8) (.c (.int .i64 0)))
 .done))
def zq2f_5 : AT := (.rd (some 10) none (.bin .eql (.t 4) (.c (.int .u8 3)))
 (.rd (some 9) none (.mov (.t 10))
 .done))
def zq2f_6 : AT := (.rd (some 11) none (.faddr 1 (.t 1))
 (.wr false none none (.store 1 (.t 11) (.c (.int .i64 0)))
 (.rd (some 12) none (.faddr 2 (.t 1))
 (.wr false none none (.store 1 (.t 12) (.c (.int .i64 0)))
 (.rd (some 13) none (.faddr 5 (.t 1))
 (.wr false none none (.store 1 (.t 13) (.c (.int .i64 0)))
 .done))))))
def zq2f_7 : AT := (.rd (some 15) none (.bin .eql (.t 4) (.c (.int .u8 4)))
 (.rd (some 14) none (.mov (.t 15))
 .done))
def zq2f_8 : AT := (.rd (some 16) none (.faddr 3 (.t 1))
 (.wr false none none (.store 1 (.t 16) (.c (.int .u8 0)))
 (.rd (some 17) none (.faddr 4 (.t 1))
 (.wr false none none (.store 1 (.t 17) (.c (.int .i64 0)))
 (.rd (some 18) none (.faddr 5 (.t 1))
 (.wr false none none (.store 1 (.t 18) (.c (.int .i64 0)))
 .done))))))
def zq2f_9 : AT := (.rd (some 19) none (.faddr 0 (.t 1))
 (.wr false none none (.store 1 (.t 19) (.c (.int .u8 0)))
 .done))
def zq2f_10 : AT := (.rd (some 20) none (.load true 6 (.t 1))
 (.wr false none none (.store 6 (.t 2) (.t 20))
 .done))
def term_bare : AF := ⟨21, [.cell 2 true 6],
  (.seq (.reg zq2f_0 [])
  (.seq (.seq (.reg zq2f_1 [3])
  (.block 0 (.seq (.seq (.reg zq2f_2 [6])
  (.cond (.t 5)
  .skip
  (.reg zq2f_3 [7])))
  (.cond (.t 5)
  (.reg zq2f_4 [8])
  (.seq (.reg zq2f_5 [10])
  (.cond (.t 9)
  (.reg zq2f_6 [11, 12, 13])
  (.seq (.reg zq2f_7 [15])
  (.cond (.t 14)
  (.reg zq2f_8 [16, 17, 18])
  .skip))))))))
  (.seq (.reg zq2f_9 [19])
  (.seq (.reg zq2f_10 [20])
  .ret))))⟩
abbrev n_term_bare : Nat := 90
/- (proofmark/norm.maker).number$1 -/
def zq2g_0 : AT := (.rd (some 7) none (.mov (.c (.int .i64 0)))
 .done)
def zq2g_1 : AT := (.rd (some 12) none (.load true 1 (.t 3))
 (.rd (some 13) none (.mov (.t 1))
 (.rd (some 14) none (.mov (.t 0))
 (.cl false (some 15) none (.c (.fn (.func 92) [] [])) [(.t 12), (.t 13), (.t 14)]
 (.rd (some 11) none (.mov (.t 15))
 (.rd (some 16) none (.extr (.t 11) 0)
 (.rd (some 17) none (.extr (.t 11) 1)
 (.rd (some 18) none (.extr (.t 11) 2)
 (.rd (some 8) none (.mov (.t 16))
 (.rd (some 9) none (.mov (.t 17))
 (.rd (some 10) none (.mov (.t 18))
 .done)))))))))))
def zq2g_2 : AT := (.rd (some 19) none (.mov (.t 10))
 (.rd (some 20) none (.mov (.t 19))
 (.rd (some 21) (some (20, true)) (.mov (.t 0))
 (.cl false (some 22) (some (20, true)) (.c (.fn (.func 16) [] [])) [(.t 21)]
 (.rd (some 23) none (.pick (.t 20) (.t 22) (.c (.bool false)))
 .done)))))
def zq2g_3 : AT := (.rd (some 25) none (.mov (.t 0))
 (.rd (some 26) none (.mov (.t 8))
 (.rd (some 27) none (.load true 1 (.t 3))
 (.rd (some 28) none (.mov (.t 0))
 (.rd (some 29) none (.mov (.t 9))
 (.rd (some 30) none (.mov (.t 2))
 (.alt (.rd (some 24) none (.load true 1 (.t 3))
 (.cl true (some 31) none (.c (.fn (.func 14) [] [])) [(.t 28), (.t 29), (.t 30)]
 (.cl false (some 32) none (.c (.fn (.func 60) [] [])) [(.t 27), (.t 31)]
 (.cl false (some 33) none (.c (.fn (.func 43) [] [])) [(.t 24), (.t 25), (.t 26), (.t 32)]
 (.rd (some 7) none (.mov (.t 33))
 .done))))) (.cl true (some 31) none (.c (.fn (.func 14) [] [])) [(.t 28), (.t 29), (.t 30)]
 (.alt (.rd (some 24) none (.load true 1 (.t 3))
 (.cl false (some 32) none (.c (.fn (.func 60) [] [])) [(.t 27), (.t 31)]
 (.cl false (some 33) none (.c (.fn (.func 43) [] [])) [(.t 24), (.t 25), (.t 26), (.t 32)]
 (.rd (some 7) none (.mov (.t 33))
 .done)))) (.cl false (some 32) none (.c (.fn (.func 60) [] [])) [(.t 27), (.t 31)]
 (.rd (some 24) none (.load true 1 (.t 3))
 (.cl false (some 33) none (.c (.fn (.func 43) [] [])) [(.t 24), (.t 25), (.t 26), (.t 32)]
 (.rd (some 7) none (.mov (.t 33))
 .done)))))))))))))
def zq2g_4 : AT := (.rd (some 7) none (.mov (.c (.int .i64 (-1))))
 .done)
def norm_maker_number_S1 : AF := ⟨34, [.tmp 7],
  (.seq (.reg zq2g_0 [])
  (.seq (.seq (.reg zq2g_1 [12, 13, 14, 15, 11, 16, 17, 18])
  (.seq (.reg zq2g_2 [19, 20, 21, 22])
  (.cond (.t 23)
  (.seq (.reg zq2g_3 [24, 25, 26, 27, 28, 29, 30, 31, 32, 33])
  .ret)
  .skip)))
  (.seq (.reg zq2g_4 [])
  .ret)))⟩
abbrev n_norm_maker_number_S1 : Nat := 91
/- (proofmark/norm.maker).tail -/
def zq2h_0 : AT := (.wr false (some 3) none (.box 76 (.t 0))
 (.rd (some 6) none (.mov (.c (.int .i64 0)))
 (.rd (some 7) none (.mov (.c (.int .i64 0)))
 (.rd (some 8) none (.mov (.c (.bool false)))
 .done))))
def zq2h_1 : AT := (.rd (some 11) none (.load true 1 (.t 3))
 (.rd (some 12) none (.mov (.t 1))
 (.rd (some 13) none (.mov (.t 2))
 (.cl false (some 14) none (.c (.fn (.func 104) [] [])) [(.t 11), (.t 12), (.t 13)]
 (.rd (some 10) none (.mov (.t 14))
 (.rd (some 15) none (.extr (.t 10) 0)
 (.rd (some 16) none (.extr (.t 10) 1)
 (.rd (some 17) none (.extr (.t 10) 2)
 (.rd (some 6) none (.mov (.t 15))
 (.rd (some 9) none (.mov (.t 16))
 (.rd (some 8) none (.mov (.t 17))
 .done)))))))))))
def zq2h_2 : AT := (.rd (some 18) none (.mov (.t 8))
 (.rd (some 19) none (.un .not (.t 18))
 .done))
def zq2h_3 : AT := (.rd (some 6) none (.mov (.c (.int .i64 0)))
 (.rd (some 7) none (.mov (.c (.int .i64 0)))
 (.rd (some 8) none (.mov (.c (.bool false)))
 .done)))
def zq2h_4 : AT := (.rd (some 21) none (.faddr 0 (.t 3))
 (.rd (some 22) none (.load false 1 (.t 21))
 (.rd (some 23) none (.mov (.t 9))
 (.cl false (some 24) none (.c (.fn (.func 30) [] [])) [(.t 22), (.t 23)]
 (.rd (some 20) none (.mov (.t 24))
 (.rd (some 25) none (.extr (.t 20) 0)
 (.rd (some 26) none (.extr (.t 20) 1)
 (.rd (some 7) none (.mov (.t 25))
 (.rd (some 8) none (.mov (.t 26))
 .done)))))))))
def zq2h_5 : AT := (.rd (some 27) none (.mov (.t 6))
 (.rd (some 28) none (.mov (.t 7))
 (.rd (some 29) none (.mov (.t 8))
 (.rd (some 6) none (.mov (.t 27))
 (.rd (some 7) none (.mov (.t 28))
 (.rd (some 8) none (.mov (.t 29))
 .done))))))
def norm_maker_tail : AF := ⟨30, [.tmp 6, .tmp 7, .tmp 8],
  (.seq (.reg zq2h_0 [])
  (.seq (.reg zq2h_1 [11, 12, 13, 14, 10, 15, 16, 17])
  (.seq (.seq (.reg zq2h_2 [18])
  (.cond (.t 19)
  (.seq (.reg zq2h_3 [])
  .ret)
  .skip))
  (.seq (.reg zq2h_4 [21, 22, 23, 24, 20, 25, 26])
  (.seq (.reg zq2h_5 [27, 28, 29])
  .ret)))))⟩
abbrev n_norm_maker_tail : Nat := 92
/- (proofmark/norm.maker).number$2 -/
def zq2i_0 : AT := (.rd (some 7) none (.mov (.c (.int .i64 0)))
 .done)
def zq2i_1 : AT := (.rd (some 8) none (.mov (.t 0))
 (.rd (some 9) none (.bin .neq (.t 8) (.c (.int .u8 16)))
 .done))
def zq2i_2 : AT := (.rd (some 7) none (.mov (.c (.int .i64 (-1))))
 .done)
def zq2i_3 : AT := (.rd (some 10) none (.load true 1 (.t 3))
 (.rd (some 11) none (.mov (.t 1))
 (.rd (some 12) none (.mov (.t 2))
 (.cl false (some 13) none (.c (.fn (.func 94) [] [])) [(.t 10), (.t 11), (.t 12)]
 (.rd (some 7) none (.mov (.t 13))
 .done)))))
def norm_maker_number_S2 : AF := ⟨14, [.tmp 7],
  (.seq (.reg zq2i_0 [])
  (.seq (.seq (.reg zq2i_1 [8])
  (.cond (.t 9)
  (.seq (.reg zq2i_2 [])
  .ret)
  .skip))
  (.seq (.reg zq2i_3 [10, 11, 12, 13])
  .ret)))⟩
abbrev n_norm_maker_number_S2 : Nat := 93
/- (proofmark/norm.maker).equal -/
def zq2j_0 : AT := (.wr false (some 3) none (.box 76 (.t 0))
 (.rd (some 6) none (.mov (.c (.int .i64 0)))
 .done))
def zq2j_1 : AT := (.rd (some 19) none (.load true 1 (.t 3))
 (.rd (some 20) none (.mov (.t 1))
 (.cl false (some 21) none (.c (.fn (.func 92) [] [])) [(.t 19), (.t 20), (.c (.int .u8 1))]
 (.rd (some 18) none (.mov (.t 21))
 (.rd (some 22) none (.extr (.t 18) 0)
 (.rd (some 23) none (.extr (.t 18) 1)
 (.rd (some 24) none (.extr (.t 18) 2)
 (.rd (some 7) none (.mov (.t 22))
 (.rd (some 8) none (.mov (.t 23))
 (.rd (some 9) none (.mov (.t 24))
 .done))))))))))
def zq2j_2 : AT := (.rd (some 25) none (.mov (.t 9))
 .done)
def zq2j_3 : AT := (.rd (some 27) none (.mov (.t 7))
 (.rd (some 28) none (.load true 1 (.t 3))
 (.rd (some 29) none (.mov (.t 2))
 (.rd (some 30) none (.mov (.t 8))
 (.rd (some 31) none (.bin .sub (.t 29) (.t 30))
 (.alt (.rd (some 26) none (.load true 1 (.t 3))
 (.cl false (some 32) none (.c (.fn (.func 60) [] [])) [(.t 28), (.t 31)]
 (.cl false (some 33) none (.c (.fn (.func 43) [] [])) [(.t 26), (.c (.int .u8 16)), (.t 27), (.t 32)]
 (.rd (some 6) none (.mov (.t 33))
 .done)))) (.cl false (some 32) none (.c (.fn (.func 60) [] [])) [(.t 28), (.t 31)]
 (.rd (some 26) none (.load true 1 (.t 3))
 (.cl false (some 33) none (.c (.fn (.func 43) [] [])) [(.t 26), (.c (.int .u8 16)), (.t 27), (.t 32)]
 (.rd (some 6) none (.mov (.t 33))
 .done))))))))))
def zq2j_4 : AT := (.rd (some 35) none (.load true 1 (.t 3))
 (.rd (some 36) none (.mov (.t 1))
 (.cl false (some 37) none (.c (.fn (.func 92) [] [])) [(.t 35), (.t 36), (.c (.int .u8 10))]
 (.rd (some 34) none (.mov (.t 37))
 (.rd (some 38) none (.extr (.t 34) 0)
 (.rd (some 39) none (.extr (.t 34) 1)
 (.rd (some 40) none (.extr (.t 34) 2)
 (.rd (some 10) none (.mov (.t 38))
 (.rd (some 11) none (.mov (.t 39))
 (.rd (some 12) none (.mov (.t 40))
 .done))))))))))
def zq2j_5 : AT := (.rd (some 41) none (.mov (.t 12))
 .done)
def zq2j_6 : AT := (.rd (some 43) none (.mov (.t 10))
 (.rd (some 44) none (.load true 1 (.t 3))
 (.rd (some 45) none (.mov (.t 2))
 (.rd (some 46) none (.mov (.t 11))
 (.rd (some 47) none (.bin .xor (.t 45) (.t 46))
 (.alt (.rd (some 42) none (.load true 1 (.t 3))
 (.cl false (some 48) none (.c (.fn (.func 60) [] [])) [(.t 44), (.t 47)]
 (.cl false (some 49) none (.c (.fn (.func 43) [] [])) [(.t 42), (.c (.int .u8 16)), (.t 43), (.t 48)]
 (.rd (some 6) none (.mov (.t 49))
 .done)))) (.cl false (some 48) none (.c (.fn (.func 60) [] [])) [(.t 44), (.t 47)]
 (.rd (some 42) none (.load true 1 (.t 3))
 (.cl false (some 49) none (.c (.fn (.func 43) [] [])) [(.t 42), (.c (.int .u8 16)), (.t 43), (.t 48)]
 (.rd (some 6) none (.mov (.t 49))
 .done))))))))))
def zq2j_7 : AT := (.wr false (some 50) none (.bsl false false 23 1 [(.int .u8 0)] 2 [(0, 1, (.c (.int .u8 10))), (1, 1, (.c (.int .u8 2)))])
 (.rd (some 51) none (.len 0 (.t 50))
 (.rd (some 52) none (.mov (.c (.int .i64 0)))
 .done)))
def zq2j_8 : AT := (.rd (some 53) none (.bin .lss (.t 52) (.t 51))
 .done)
def zq2j_9 : AT := (.rd (some 54) none (.iaddr none 1 (.t 50) (.t 52))
 (.rd (some 55) none (.load false 1 (.t 54))
 (.rd (some 14) none (.mov (.t 55))
 .done)))
def zq2j_10 : AT := (.rd (some 57) none (.load true 1 (.t 3))
 (.rd (some 58) none (.mov (.t 1))
 (.rd (some 59) none (.mov (.t 14))
 (.cl false (some 60) none (.c (.fn (.func 104) [] [])) [(.t 57), (.t 58), (.t 59)]
 (.rd (some 56) none (.mov (.t 60))
 (.rd (some 61) none (.extr (.t 56) 0)
 (.rd (some 62) none (.extr (.t 56) 1)
 (.rd (some 63) none (.extr (.t 56) 2)
 (.rd (some 15) none (.mov (.t 61))
 (.rd (some 16) none (.mov (.t 62))
 (.rd (some 17) none (.mov (.t 63))
 .done)))))))))))
def zq2j_11 : AT := (.rd (some 64) none (.mov (.t 17))
 (.rd (some 65) none (.mov (.t 64))
 (.rd (some 66) (some (65, true)) (.mov (.t 2))
 (.rd (some 67) (some (65, true)) (.bin .eql (.t 66) (.c (.int .i64 0)))
 (.rd (some 68) none (.pick (.t 65) (.t 67) (.c (.bool false)))
 .done)))))
def zq2j_12 : AT := (.rd (some 69) none (.load true 1 (.t 3))
 (.rd (some 70) none (.mov (.t 15))
 (.rd (some 71) none (.mov (.t 16))
 (.cl false (some 72) none (.c (.fn (.func 43) [] [])) [(.t 69), (.c (.int .u8 16)), (.t 70), (.t 71)]
 (.rd (some 6) none (.mov (.t 72))
 .done)))))
def zq2j_13 : AT := (.rd (some 73) none (.bin .add (.t 52) (.c (.int .i64 1)))
 (.rd (some 52) none (.mov (.t 73))
 .done))
def zq2j_14 : AT := (.rd (some 6) none (.mov (.c (.int .i64 (-1))))
 .done)
def norm_maker_equal : AF := ⟨74, [.tmp 6],
  (.seq (.reg zq2j_0 [])
  (.seq (.seq (.reg zq2j_1 [19, 20, 21, 18, 22, 23, 24])
  (.seq (.reg zq2j_2 [])
  (.cond (.t 25)
  (.seq (.reg zq2j_3 [26, 27, 28, 29, 30, 31, 32, 33])
  .ret)
  .skip)))
  (.seq (.seq (.reg zq2j_4 [35, 36, 37, 34, 38, 39, 40])
  (.seq (.reg zq2j_5 [])
  (.cond (.t 41)
  (.seq (.reg zq2j_6 [42, 43, 44, 45, 46, 47, 48, 49])
  .ret)
  .skip)))
  (.seq (.seq (.reg zq2j_7 [])
  (.block 0 (.loop (.seq (.reg zq2j_8 [])
  (.seq (.cond (.t 53)
  .skip
  (.exit 0))
  (.seq (.block 1 (.seq (.reg zq2j_9 [54, 55])
  (.seq (.reg zq2j_10 [57, 58, 59, 60, 56, 61, 62, 63])
  (.seq (.reg zq2j_11 [64, 65, 66, 67])
  (.cond (.t 68)
  (.seq (.reg zq2j_12 [69, 70, 71, 72])
  .ret)
  .skip)))))
  (.reg zq2j_13 [73])))))))
  (.seq (.reg zq2j_14 [])
  .ret)))))⟩
abbrev n_norm_maker_equal : Nat := 94
/- (proofmark/norm.maker).fixed -/
def zq2k_0 : AT := (.wr false (some 4) none (.box 76 (.t 0))
 (.rd (some 8) none (.mov (.c (.int .i64 0)))
 .done))
def zq2k_1 : AT := (.rd (some 12) none (.mov (.t 1))
 (.cl false (some 13) none (.c (.fn (.func 17) [] [])) [(.t 12)]
 (.rd (some 11) none (.mov (.t 13))
 (.rd (some 14) none (.extr (.t 11) 0)
 (.rd (some 15) none (.extr (.t 11) 1)
 (.rd (some 9) none (.mov (.t 14))
 (.rd (some 10) none (.mov (.t 15))
 .done)))))))
def zq2k_2 : AT := (.rd (some 16) none (.mov (.t 10))
 (.rd (some 17) none (.mov (.t 16))
 (.rd (some 18) (some (17, true)) (.mov (.t 3))
 (.rd (some 19) (some (17, true)) (.mov (.t 9))
 (.rd (some 20) (some (17, true)) (.bin .eql (.t 18) (.t 19))
 (.rd (some 21) none (.pick (.t 17) (.t 20) (.c (.bool false)))
 .done))))))
def zq2k_3 : AT := (.rd (some 22) none (.mov (.t 2))
 (.rd (some 8) none (.mov (.t 22))
 .done))
def zq2k_4 : AT := (.rd (some 24) none (.mov (.t 1))
 (.rd (some 25) none (.conv .i64 (.t 24))
 (.wr false (some 26) none (.bsl false false 2 1 [(.int .i64 0)] 3 [(0, 1, (.c (.int .i64 3))), (1, 1, (.c (.int .i64 8))), (2, 1, (.c (.int .i64 15)))])
 (.cl false (some 27) none (.c (.fn (.func 47) [] [])) [(.t 25), (.t 26)]
 (.rd (some 28) none (.mov (.t 27))
 (.rd (some 29) (some (28, true)) (.mov (.t 3))
 (.rd (some 30) (some (28, true)) (.bin .eql (.t 29) (.c (.int .i64 0)))
 (.rd (some 31) none (.pick (.t 28) (.t 30) (.c (.bool false)))
 (.rd (some 23) none (.mov (.t 31))
 .done)))))))))
def zq2k_5 : AT := (.rd (some 32) none (.load true 1 (.t 4))
 (.cl false (some 33) none (.c (.fn (.func 60) [] [])) [(.t 32), (.c (.int .i64 0))]
 (.rd (some 8) none (.mov (.t 33))
 .done)))
def zq2k_6 : AT := (.rd (some 35) none (.mov (.t 1))
 (.rd (some 36) none (.bin .eql (.t 35) (.c (.int .u8 9)))
 (.rd (some 37) none (.mov (.t 36))
 (.rd (some 38) (some (37, true)) (.mov (.t 3))
 (.rd (some 39) (some (37, true)) (.bin .eql (.t 38) (.c (.int .i64 (-1))))
 (.rd (some 40) none (.pick (.t 37) (.t 39) (.c (.bool false)))
 (.rd (some 34) none (.mov (.t 40))
 .done)))))))
def zq2k_7 : AT := (.rd (some 41) none (.load true 1 (.t 4))
 (.cl false (some 42) none (.c (.fn (.func 60) [] [])) [(.t 41), (.c (.int .i64 (-1)))]
 (.rd (some 8) none (.mov (.t 42))
 .done)))
def zq2k_8 : AT := (.rd (some 44) none (.mov (.t 1))
 (.rd (some 45) none (.conv .i64 (.t 44))
 (.wr false (some 46) none (.bsl false false 2 1 [(.int .i64 0)] 2 [(0, 1, (.c (.int .i64 5))), (1, 1, (.c (.int .i64 7)))])
 (.cl false (some 47) none (.c (.fn (.func 47) [] [])) [(.t 45), (.t 46)]
 (.rd (some 48) none (.mov (.t 47))
 (.rd (some 49) (some (48, true)) (.mov (.t 3))
 (.rd (some 50) (some (48, true)) (.bin .eql (.t 49) (.c (.int .i64 1)))
 (.rd (some 51) none (.pick (.t 48) (.t 50) (.c (.bool false)))
 (.rd (some 43) none (.mov (.t 51))
 .done)))))))))
def zq2k_9 : AT := (.rd (some 52) none (.load true 1 (.t 4))
 (.cl false (some 53) none (.c (.fn (.func 60) [] [])) [(.t 52), (.c (.int .i64 0))]
 (.rd (some 8) none (.mov (.t 53))
 .done)))
def zq2k_10 : AT := (.rd (some 8) none (.mov (.c (.int .i64 (-1))))
 .done)
def norm_maker_fixed : AF := ⟨54, [.tmp 8],
  (.seq (.reg zq2k_0 [])
  (.seq (.seq (.reg zq2k_1 [12, 13, 11, 14, 15])
  (.seq (.reg zq2k_2 [16, 17, 18, 19, 20])
  (.cond (.t 21)
  (.seq (.reg zq2k_3 [22])
  .ret)
  .skip)))
  (.seq (.block 0 (.seq (.reg zq2k_4 [24, 25, 26, 27, 28, 29, 30, 31])
  (.cond (.t 23)
  (.seq (.reg zq2k_5 [32, 33])
  .ret)
  (.seq (.reg zq2k_6 [35, 36, 37, 38, 39, 40])
  (.cond (.t 34)
  (.seq (.reg zq2k_7 [41, 42])
  .ret)
  (.seq (.reg zq2k_8 [44, 45, 46, 47, 48, 49, 50, 51])
  (.cond (.t 43)
  (.seq (.reg zq2k_9 [52, 53])
  .ret)
  .skip)))))))
  (.seq (.reg zq2k_10 [])
  .ret))))⟩
abbrev n_norm_maker_fixed : Nat := 95
/- (proofmark/norm.maker).moved -/
def zq2l_0 : AT := (.wr false (some 4) none (.box 76 (.t 0))
 (.rd (some 8) none (.mov (.c (.int .i64 0)))
 .done))
def zq2l_1 : AT := (.rd (some 12) none (.mov (.t 3))
 (.cl false (some 13) none (.c (.fn (.func 105) [] [])) [(.t 12)]
 (.rd (some 11) none (.mov (.t 13))
 (.rd (some 14) none (.extr (.t 11) 0)
 (.rd (some 15) none (.extr (.t 11) 1)
 (.rd (some 9) none (.mov (.t 14))
 (.rd (some 10) none (.mov (.t 15))
 .done)))))))
def zq2l_2 : AT := (.rd (some 17) none (.mov (.t 1))
 (.rd (some 18) none (.bin .eql (.t 17) (.c (.int .u8 2)))
 (.rd (some 16) none (.mov (.t 18))
 .done)))
def zq2l_3 : AT := (.rd (some 20) none (.mov (.t 2))
 (.rd (some 21) none (.load true 1 (.t 4))
 (.rd (some 22) none (.mov (.t 3))
 (.rd (some 23) none (.un .neg (.t 22))
 (.alt (.rd (some 19) none (.load true 1 (.t 4))
 (.cl false (some 24) none (.c (.fn (.func 60) [] [])) [(.t 21), (.t 23)]
 (.cl false (some 25) none (.c (.fn (.func 43) [] [])) [(.t 19), (.c (.int .u8 1)), (.t 20), (.t 24)]
 (.rd (some 8) none (.mov (.t 25))
 .done)))) (.cl false (some 24) none (.c (.fn (.func 60) [] [])) [(.t 21), (.t 23)]
 (.rd (some 19) none (.load true 1 (.t 4))
 (.cl false (some 25) none (.c (.fn (.func 43) [] [])) [(.t 19), (.c (.int .u8 1)), (.t 20), (.t 24)]
 (.rd (some 8) none (.mov (.t 25))
 .done)))))))))
def zq2l_4 : AT := (.rd (some 27) none (.mov (.t 1))
 (.rd (some 28) none (.bin .eql (.t 27) (.c (.int .u8 11)))
 (.rd (some 26) none (.mov (.t 28))
 .done)))
def zq2l_5 : AT := (.rd (some 30) none (.mov (.t 2))
 (.rd (some 31) none (.load true 1 (.t 4))
 (.rd (some 32) none (.mov (.t 3))
 (.rd (some 33) none (.bin .and (.t 32) (.c (.int .i64 63)))
 (.rd (some 34) none (.bin .shl (.c (.int .i64 1)) (.t 33))
 (.alt (.rd (some 29) none (.load true 1 (.t 4))
 (.cl false (some 35) none (.c (.fn (.func 60) [] [])) [(.t 31), (.t 34)]
 (.cl false (some 36) none (.c (.fn (.func 43) [] [])) [(.t 29), (.c (.int .u8 3)), (.t 30), (.t 35)]
 (.rd (some 8) none (.mov (.t 36))
 .done)))) (.cl false (some 35) none (.c (.fn (.func 60) [] [])) [(.t 31), (.t 34)]
 (.rd (some 29) none (.load true 1 (.t 4))
 (.cl false (some 36) none (.c (.fn (.func 43) [] [])) [(.t 29), (.c (.int .u8 3)), (.t 30), (.t 35)]
 (.rd (some 8) none (.mov (.t 36))
 .done))))))))))
def zq2l_6 : AT := (.rd (some 38) none (.mov (.t 1))
 (.rd (some 39) none (.bin .eql (.t 38) (.c (.int .u8 12)))
 (.rd (some 40) none (.mov (.t 39))
 (.rd (some 41) (some (40, false)) (.mov (.t 1))
 (.rd (some 42) (some (40, false)) (.bin .eql (.t 41) (.c (.int .u8 13)))
 (.rd (some 43) none (.pick (.t 40) (.c (.bool true)) (.t 42))
 (.rd (some 44) none (.mov (.t 43))
 (.rd (some 45) (some (44, true)) (.mov (.t 3))
 (.rd (some 46) (some (44, true)) (.mov (.t 3))
 (.rd (some 47) (some (44, true)) (.bin .and (.t 46) (.c (.int .i64 63)))
 (.rd (some 48) (some (44, true)) (.bin .neq (.t 45) (.t 47))
 (.rd (some 49) none (.pick (.t 44) (.t 48) (.c (.bool false)))
 (.rd (some 37) none (.mov (.t 49))
 .done)))))))))))))
def zq2l_7 : AT := (.rd (some 51) none (.mov (.t 1))
 (.rd (some 52) none (.mov (.t 2))
 (.rd (some 53) none (.load true 1 (.t 4))
 (.rd (some 54) none (.mov (.t 3))
 (.rd (some 55) none (.bin .and (.t 54) (.c (.int .i64 63)))
 (.alt (.rd (some 50) none (.load true 1 (.t 4))
 (.cl false (some 56) none (.c (.fn (.func 60) [] [])) [(.t 53), (.t 55)]
 (.cl false (some 57) none (.c (.fn (.func 43) [] [])) [(.t 50), (.t 51), (.t 52), (.t 56)]
 (.rd (some 8) none (.mov (.t 57))
 .done)))) (.cl false (some 56) none (.c (.fn (.func 60) [] [])) [(.t 53), (.t 55)]
 (.rd (some 50) none (.load true 1 (.t 4))
 (.cl false (some 57) none (.c (.fn (.func 43) [] [])) [(.t 50), (.t 51), (.t 52), (.t 56)]
 (.rd (some 8) none (.mov (.t 57))
 .done))))))))))
def zq2l_8 : AT := (.rd (some 59) none (.mov (.t 1))
 (.rd (some 60) none (.bin .eql (.t 59) (.c (.int .u8 6)))
 (.rd (some 61) none (.mov (.t 60))
 (.rd (some 62) (some (61, true)) (.mov (.t 10))
 (.rd (some 63) none (.pick (.t 61) (.t 62) (.c (.bool false)))
 (.rd (some 58) none (.mov (.t 63))
 .done))))))
def zq2l_9 : AT := (.rd (some 65) none (.mov (.t 2))
 (.rd (some 66) none (.load true 1 (.t 4))
 (.rd (some 67) none (.mov (.t 9))
 (.alt (.rd (some 64) none (.load true 1 (.t 4))
 (.cl false (some 68) none (.c (.fn (.func 60) [] [])) [(.t 66), (.t 67)]
 (.cl false (some 69) none (.c (.fn (.func 43) [] [])) [(.t 64), (.c (.int .u8 12)), (.t 65), (.t 68)]
 (.rd (some 8) none (.mov (.t 69))
 .done)))) (.cl false (some 68) none (.c (.fn (.func 60) [] [])) [(.t 66), (.t 67)]
 (.rd (some 64) none (.load true 1 (.t 4))
 (.cl false (some 69) none (.c (.fn (.func 43) [] [])) [(.t 64), (.c (.int .u8 12)), (.t 65), (.t 68)]
 (.rd (some 8) none (.mov (.t 69))
 .done))))))))
def zq2l_10 : AT := (.rd (some 71) none (.mov (.t 1))
 (.rd (some 72) none (.bin .eql (.t 71) (.c (.int .u8 7)))
 (.rd (some 73) none (.mov (.t 72))
 (.rd (some 74) (some (73, true)) (.mov (.t 10))
 (.rd (some 75) none (.pick (.t 73) (.t 74) (.c (.bool false)))
 (.rd (some 70) none (.mov (.t 75))
 .done))))))
def zq2l_11 : AT := (.rd (some 77) none (.mov (.t 2))
 (.rd (some 78) none (.load true 1 (.t 4))
 (.rd (some 79) none (.mov (.t 3))
 (.rd (some 80) none (.bin .sub (.t 79) (.c (.int .i64 1)))
 (.alt (.rd (some 76) none (.load true 1 (.t 4))
 (.cl false (some 81) none (.c (.fn (.func 60) [] [])) [(.t 78), (.t 80)]
 (.cl false (some 82) none (.c (.fn (.func 43) [] [])) [(.t 76), (.c (.int .u8 8)), (.t 77), (.t 81)]
 (.rd (some 8) none (.mov (.t 82))
 .done)))) (.cl false (some 81) none (.c (.fn (.func 60) [] [])) [(.t 78), (.t 80)]
 (.rd (some 76) none (.load true 1 (.t 4))
 (.cl false (some 82) none (.c (.fn (.func 43) [] [])) [(.t 76), (.c (.int .u8 8)), (.t 77), (.t 81)]
 (.rd (some 8) none (.mov (.t 82))
 .done)))))))))
def zq2l_12 : AT := (.rd (some 84) none (.mov (.t 1))
 (.rd (some 85) none (.bin .eql (.t 84) (.c (.int .u8 15)))
 (.rd (some 86) none (.mov (.t 85))
 (.rd (some 87) (some (86, true)) (.mov (.t 3))
 (.rd (some 88) (some (86, true)) (.bin .eql (.t 87) (.c (.int .i64 1)))
 (.rd (some 89) none (.pick (.t 86) (.t 88) (.c (.bool false)))
 (.rd (some 83) none (.mov (.t 89))
 .done)))))))
def zq2l_13 : AT := (.rd (some 91) none (.mov (.t 2))
 (.rd (some 92) none (.load true 1 (.t 4))
 (.alt (.rd (some 90) none (.load true 1 (.t 4))
 (.cl false (some 93) none (.c (.fn (.func 60) [] [])) [(.t 92), (.c (.int .i64 0))]
 (.cl false (some 94) none (.c (.fn (.func 43) [] [])) [(.t 90), (.c (.int .u8 16)), (.t 91), (.t 93)]
 (.rd (some 8) none (.mov (.t 94))
 .done)))) (.cl false (some 93) none (.c (.fn (.func 60) [] [])) [(.t 92), (.c (.int .i64 0))]
 (.rd (some 90) none (.load true 1 (.t 4))
 (.cl false (some 94) none (.c (.fn (.func 43) [] [])) [(.t 90), (.c (.int .u8 16)), (.t 91), (.t 93)]
 (.rd (some 8) none (.mov (.t 94))
 .done)))))))
def zq2l_14 : AT := (.rd (some 8) none (.mov (.c (.int .i64 (-1))))
 .done)
def norm_maker_moved : AF := ⟨95, [.tmp 8],
  (.seq (.reg zq2l_0 [])
  (.seq (.reg zq2l_1 [12, 13, 11, 14, 15])
  (.seq (.block 0 (.seq (.reg zq2l_2 [17, 18])
  (.cond (.t 16)
  (.seq (.reg zq2l_3 [19, 20, 21, 22, 23, 24, 25])
  .ret)
  (.seq (.reg zq2l_4 [27, 28])
  (.cond (.t 26)
  (.seq (.reg zq2l_5 [29, 30, 31, 32, 33, 34, 35, 36])
  .ret)
  (.seq (.reg zq2l_6 [38, 39, 40, 41, 42, 43, 44, 45, 46, 47, 48, 49])
  (.cond (.t 37)
  (.seq (.reg zq2l_7 [50, 51, 52, 53, 54, 55, 56, 57])
  .ret)
  (.seq (.reg zq2l_8 [59, 60, 61, 62, 63])
  (.cond (.t 58)
  (.seq (.reg zq2l_9 [64, 65, 66, 67, 68, 69])
  .ret)
  (.seq (.reg zq2l_10 [71, 72, 73, 74, 75])
  (.cond (.t 70)
  (.seq (.reg zq2l_11 [76, 77, 78, 79, 80, 81, 82])
  .ret)
  (.seq (.reg zq2l_12 [84, 85, 86, 87, 88, 89])
  (.cond (.t 83)
  (.seq (.reg zq2l_13 [90, 91, 92, 93, 94])
  .ret)
  .skip)))))))))))))
  (.seq (.reg zq2l_14 [])
  .ret))))⟩
abbrev n_norm_maker_moved : Nat := 96
/- (proofmark/norm.maker).truth -/
def zq2m_0 : AT := (.wr false (some 4) none (.box 76 (.t 0))
 (.rd (some 8) none (.mov (.c (.int .i64 0)))
 .done))
def zq2m_1 : AT := (.rd (some 13) none (.faddr 0 (.t 4))
 (.rd (some 14) none (.load false 1 (.t 13))
 (.rd (some 15) none (.mov (.t 2))
 (.cl false (some 16) none (.c (.fn (.func 31) [] [])) [(.t 14), (.t 15)]
 (.rd (some 17) none (.un .not (.t 16))
 (.rd (some 12) none (.mov (.t 17))
 .done))))))
def zq2m_2 : AT := (.rd (some 8) none (.mov (.c (.int .i64 (-1))))
 .done)
def zq2m_3 : AT := (.rd (some 19) none (.mov (.t 1))
 (.rd (some 20) none (.bin .eql (.t 19) (.c (.int .u8 8)))
 (.rd (some 21) none (.mov (.t 20))
 (.rd (some 22) (some (21, true)) (.mov (.t 3))
 (.rd (some 23) (some (21, true)) (.bin .and (.t 22) (.c (.int .i64 1)))
 (.rd (some 24) (some (21, true)) (.bin .eql (.t 23) (.c (.int .i64 1)))
 (.rd (some 25) none (.pick (.t 21) (.t 24) (.c (.bool false)))
 (.rd (some 18) none (.mov (.t 25))
 .done))))))))
def zq2m_4 : AT := (.rd (some 26) none (.mov (.t 1))
 (.rd (some 27) none (.bin .eql (.t 26) (.c (.int .u8 16)))
 (.rd (some 28) none (.mov (.t 27))
 (.rd (some 29) (some (28, true)) (.mov (.t 3))
 (.rd (some 30) (some (28, true)) (.bin .eql (.t 29) (.c (.int .i64 1)))
 (.rd (some 31) none (.pick (.t 28) (.t 30) (.c (.bool false)))
 (.rd (some 18) none (.mov (.t 31))
 .done)))))))
def zq2m_5 : AT := (.rd (some 32) none (.mov (.t 2))
 (.rd (some 8) none (.mov (.t 32))
 .done))
def zq2m_6 : AT := (.rd (some 34) none (.mov (.t 1))
 (.rd (some 35) none (.bin .eql (.t 34) (.c (.int .u8 8)))
 (.rd (some 33) none (.mov (.t 35))
 .done)))
def zq2m_7 : AT := (.rd (some 36) none (.mov (.t 1))
 (.rd (some 37) none (.bin .eql (.t 36) (.c (.int .u8 16)))
 (.rd (some 38) none (.mov (.t 37))
 (.rd (some 39) (some (38, true)) (.mov (.t 3))
 (.rd (some 40) (some (38, true)) (.bin .neq (.t 39) (.c (.int .i64 0)))
 (.rd (some 41) none (.pick (.t 38) (.t 40) (.c (.bool false)))
 (.rd (some 33) none (.mov (.t 41))
 .done)))))))
def zq2m_8 : AT := (.rd (some 42) none (.load true 1 (.t 4))
 (.cl false (some 43) none (.c (.fn (.func 60) [] [])) [(.t 42), (.c (.int .i64 0))]
 (.rd (some 8) none (.mov (.t 43))
 .done)))
def zq2m_9 : AT := (.rd (some 45) none (.mov (.t 1))
 (.rd (some 46) none (.bin .eql (.t 45) (.c (.int .u8 10)))
 (.rd (some 47) none (.mov (.t 46))
 (.rd (some 48) (some (47, true)) (.mov (.t 3))
 (.rd (some 49) (some (47, true)) (.bin .and (.t 48) (.c (.int .i64 1)))
 (.rd (some 50) (some (47, true)) (.bin .eql (.t 49) (.c (.int .i64 1)))
 (.rd (some 51) none (.pick (.t 47) (.t 50) (.c (.bool false)))
 (.rd (some 44) none (.mov (.t 51))
 .done))))))))
def zq2m_10 : AT := (.rd (some 54) none (.mov (.t 2))
 (.rd (some 55) none (.load true 1 (.t 4))
 (.rd (some 59) none (.mov (.t 3))
 (.rd (some 60) none (.bin .xor (.t 59) (.c (.int .i64 1)))
 (.alt (.rd (some 52) none (.load true 1 (.t 4))
 (.alt (.rd (some 53) none (.load true 1 (.t 4))
 (.alt (.cl false (some 56) none (.c (.fn (.func 60) [] [])) [(.t 55), (.c (.int .i64 0))]
 (.alt (.cl false (some 57) none (.c (.fn (.func 43) [] [])) [(.t 53), (.c (.int .u8 16)), (.t 54), (.t 56)]
 (.rd (some 58) none (.load true 1 (.t 4))
 (.cl false (some 61) none (.c (.fn (.func 60) [] [])) [(.t 58), (.t 60)]
 (.cl false (some 62) none (.c (.fn (.func 43) [] [])) [(.t 52), (.c (.int .u8 10)), (.t 57), (.t 61)]
 (.rd (some 8) none (.mov (.t 62))
 .done))))) (.rd (some 58) none (.load true 1 (.t 4))
 (.cl false (some 57) none (.c (.fn (.func 43) [] [])) [(.t 53), (.c (.int .u8 16)), (.t 54), (.t 56)]
 (.cl false (some 61) none (.c (.fn (.func 60) [] [])) [(.t 58), (.t 60)]
 (.cl false (some 62) none (.c (.fn (.func 43) [] [])) [(.t 52), (.c (.int .u8 10)), (.t 57), (.t 61)]
 (.rd (some 8) none (.mov (.t 62))
 .done))))))) (.rd (some 58) none (.load true 1 (.t 4))
 (.cl false (some 56) none (.c (.fn (.func 60) [] [])) [(.t 55), (.c (.int .i64 0))]
 (.cl false (some 57) none (.c (.fn (.func 43) [] [])) [(.t 53), (.c (.int .u8 16)), (.t 54), (.t 56)]
 (.cl false (some 61) none (.c (.fn (.func 60) [] [])) [(.t 58), (.t 60)]
 (.cl false (some 62) none (.c (.fn (.func 43) [] [])) [(.t 52), (.c (.int .u8 10)), (.t 57), (.t 61)]
 (.rd (some 8) none (.mov (.t 62))
 .done)))))))) (.alt (.cl false (some 56) none (.c (.fn (.func 60) [] [])) [(.t 55), (.c (.int .i64 0))]
 (.alt (.rd (some 53) none (.load true 1 (.t 4))
 (.alt (.cl false (some 57) none (.c (.fn (.func 43) [] [])) [(.t 53), (.c (.int .u8 16)), (.t 54), (.t 56)]
 (.rd (some 58) none (.load true 1 (.t 4))
 (.cl false (some 61) none (.c (.fn (.func 60) [] [])) [(.t 58), (.t 60)]
 (.cl false (some 62) none (.c (.fn (.func 43) [] [])) [(.t 52), (.c (.int .u8 10)), (.t 57), (.t 61)]
 (.rd (some 8) none (.mov (.t 62))
 .done))))) (.rd (some 58) none (.load true 1 (.t 4))
 (.cl false (some 57) none (.c (.fn (.func 43) [] [])) [(.t 53), (.c (.int .u8 16)), (.t 54), (.t 56)]
 (.cl false (some 61) none (.c (.fn (.func 60) [] [])) [(.t 58), (.t 60)]
 (.cl false (some 62) none (.c (.fn (.func 43) [] [])) [(.t 52), (.c (.int .u8 10)), (.t 57), (.t 61)]
 (.rd (some 8) none (.mov (.t 62))
 .done))))))) (.rd (some 58) none (.load true 1 (.t 4))
 (.rd (some 53) none (.load true 1 (.t 4))
 (.cl false (some 57) none (.c (.fn (.func 43) [] [])) [(.t 53), (.c (.int .u8 16)), (.t 54), (.t 56)]
 (.cl false (some 61) none (.c (.fn (.func 60) [] [])) [(.t 58), (.t 60)]
 (.cl false (some 62) none (.c (.fn (.func 43) [] [])) [(.t 52), (.c (.int .u8 10)), (.t 57), (.t 61)]
 (.rd (some 8) none (.mov (.t 62))
 .done)))))))) (.rd (some 58) none (.load true 1 (.t 4))
 (.alt (.rd (some 53) none (.load true 1 (.t 4))
 (.cl false (some 56) none (.c (.fn (.func 60) [] [])) [(.t 55), (.c (.int .i64 0))]
 (.cl false (some 57) none (.c (.fn (.func 43) [] [])) [(.t 53), (.c (.int .u8 16)), (.t 54), (.t 56)]
 (.cl false (some 61) none (.c (.fn (.func 60) [] [])) [(.t 58), (.t 60)]
 (.cl false (some 62) none (.c (.fn (.func 43) [] [])) [(.t 52), (.c (.int .u8 10)), (.t 57), (.t 61)]
 (.rd (some 8) none (.mov (.t 62))
 .done)))))) (.cl false (some 56) none (.c (.fn (.func 60) [] [])) [(.t 55), (.c (.int .i64 0))]
 (.rd (some 53) none (.load true 1 (.t 4))
 (.cl false (some 57) none (.c (.fn (.func 43) [] [])) [(.t 53), (.c (.int .u8 16)), (.t 54), (.t 56)]
 (.cl false (some 61) none (.c (.fn (.func 60) [] [])) [(.t 58), (.t 60)]
 (.cl false (some 62) none (.c (.fn (.func 43) [] [])) [(.t 52), (.c (.int .u8 10)), (.t 57), (.t 61)]
 (.rd (some 8) none (.mov (.t 62))
 .done))))))))))) (.alt (.rd (some 53) none (.load true 1 (.t 4))
 (.alt (.rd (some 52) none (.load true 1 (.t 4))
 (.alt (.cl false (some 56) none (.c (.fn (.func 60) [] [])) [(.t 55), (.c (.int .i64 0))]
 (.alt (.cl false (some 57) none (.c (.fn (.func 43) [] [])) [(.t 53), (.c (.int .u8 16)), (.t 54), (.t 56)]
 (.rd (some 58) none (.load true 1 (.t 4))
 (.cl false (some 61) none (.c (.fn (.func 60) [] [])) [(.t 58), (.t 60)]
 (.cl false (some 62) none (.c (.fn (.func 43) [] [])) [(.t 52), (.c (.int .u8 10)), (.t 57), (.t 61)]
 (.rd (some 8) none (.mov (.t 62))
 .done))))) (.rd (some 58) none (.load true 1 (.t 4))
 (.cl false (some 57) none (.c (.fn (.func 43) [] [])) [(.t 53), (.c (.int .u8 16)), (.t 54), (.t 56)]
 (.cl false (some 61) none (.c (.fn (.func 60) [] [])) [(.t 58), (.t 60)]
 (.cl false (some 62) none (.c (.fn (.func 43) [] [])) [(.t 52), (.c (.int .u8 10)), (.t 57), (.t 61)]
 (.rd (some 8) none (.mov (.t 62))
 .done))))))) (.rd (some 58) none (.load true 1 (.t 4))
 (.cl false (some 56) none (.c (.fn (.func 60) [] [])) [(.t 55), (.c (.int .i64 0))]
 (.cl false (some 57) none (.c (.fn (.func 43) [] [])) [(.t 53), (.c (.int .u8 16)), (.t 54), (.t 56)]
 (.cl false (some 61) none (.c (.fn (.func 60) [] [])) [(.t 58), (.t 60)]
 (.cl false (some 62) none (.c (.fn (.func 43) [] [])) [(.t 52), (.c (.int .u8 10)), (.t 57), (.t 61)]
 (.rd (some 8) none (.mov (.t 62))
 .done)))))))) (.alt (.cl false (some 56) none (.c (.fn (.func 60) [] [])) [(.t 55), (.c (.int .i64 0))]
 (.alt (.rd (some 52) none (.load true 1 (.t 4))
 (.alt (.cl false (some 57) none (.c (.fn (.func 43) [] [])) [(.t 53), (.c (.int .u8 16)), (.t 54), (.t 56)]
 (.rd (some 58) none (.load true 1 (.t 4))
 (.cl false (some 61) none (.c (.fn (.func 60) [] [])) [(.t 58), (.t 60)]
 (.cl false (some 62) none (.c (.fn (.func 43) [] [])) [(.t 52), (.c (.int .u8 10)), (.t 57), (.t 61)]
 (.rd (some 8) none (.mov (.t 62))
 .done))))) (.rd (some 58) none (.load true 1 (.t 4))
 (.cl false (some 57) none (.c (.fn (.func 43) [] [])) [(.t 53), (.c (.int .u8 16)), (.t 54), (.t 56)]
 (.cl false (some 61) none (.c (.fn (.func 60) [] [])) [(.t 58), (.t 60)]
 (.cl false (some 62) none (.c (.fn (.func 43) [] [])) [(.t 52), (.c (.int .u8 10)), (.t 57), (.t 61)]
 (.rd (some 8) none (.mov (.t 62))
 .done))))))) (.alt (.cl false (some 57) none (.c (.fn (.func 43) [] [])) [(.t 53), (.c (.int .u8 16)), (.t 54), (.t 56)]
 (.alt (.rd (some 52) none (.load true 1 (.t 4))
 (.rd (some 58) none (.load true 1 (.t 4))
 (.cl false (some 61) none (.c (.fn (.func 60) [] [])) [(.t 58), (.t 60)]
 (.cl false (some 62) none (.c (.fn (.func 43) [] [])) [(.t 52), (.c (.int .u8 10)), (.t 57), (.t 61)]
 (.rd (some 8) none (.mov (.t 62))
 .done))))) (.rd (some 58) none (.load true 1 (.t 4))
 (.alt (.rd (some 52) none (.load true 1 (.t 4))
 (.cl false (some 61) none (.c (.fn (.func 60) [] [])) [(.t 58), (.t 60)]
 (.cl false (some 62) none (.c (.fn (.func 43) [] [])) [(.t 52), (.c (.int .u8 10)), (.t 57), (.t 61)]
 (.rd (some 8) none (.mov (.t 62))
 .done)))) (.cl false (some 61) none (.c (.fn (.func 60) [] [])) [(.t 58), (.t 60)]
 (.rd (some 52) none (.load true 1 (.t 4))
 (.cl false (some 62) none (.c (.fn (.func 43) [] [])) [(.t 52), (.c (.int .u8 10)), (.t 57), (.t 61)]
 (.rd (some 8) none (.mov (.t 62))
 .done)))))))) (.rd (some 58) none (.load true 1 (.t 4))
 (.alt (.rd (some 52) none (.load true 1 (.t 4))
 (.cl false (some 57) none (.c (.fn (.func 43) [] [])) [(.t 53), (.c (.int .u8 16)), (.t 54), (.t 56)]
 (.cl false (some 61) none (.c (.fn (.func 60) [] [])) [(.t 58), (.t 60)]
 (.cl false (some 62) none (.c (.fn (.func 43) [] [])) [(.t 52), (.c (.int .u8 10)), (.t 57), (.t 61)]
 (.rd (some 8) none (.mov (.t 62))
 .done))))) (.cl false (some 57) none (.c (.fn (.func 43) [] [])) [(.t 53), (.c (.int .u8 16)), (.t 54), (.t 56)]
 (.alt (.rd (some 52) none (.load true 1 (.t 4))
 (.cl false (some 61) none (.c (.fn (.func 60) [] [])) [(.t 58), (.t 60)]
 (.cl false (some 62) none (.c (.fn (.func 43) [] [])) [(.t 52), (.c (.int .u8 10)), (.t 57), (.t 61)]
 (.rd (some 8) none (.mov (.t 62))
 .done)))) (.cl false (some 61) none (.c (.fn (.func 60) [] [])) [(.t 58), (.t 60)]
 (.rd (some 52) none (.load true 1 (.t 4))
 (.cl false (some 62) none (.c (.fn (.func 43) [] [])) [(.t 52), (.c (.int .u8 10)), (.t 57), (.t 61)]
 (.rd (some 8) none (.mov (.t 62))
 .done))))))))))) (.rd (some 58) none (.load true 1 (.t 4))
 (.alt (.rd (some 52) none (.load true 1 (.t 4))
 (.cl false (some 56) none (.c (.fn (.func 60) [] [])) [(.t 55), (.c (.int .i64 0))]
 (.cl false (some 57) none (.c (.fn (.func 43) [] [])) [(.t 53), (.c (.int .u8 16)), (.t 54), (.t 56)]
 (.cl false (some 61) none (.c (.fn (.func 60) [] [])) [(.t 58), (.t 60)]
 (.cl false (some 62) none (.c (.fn (.func 43) [] [])) [(.t 52), (.c (.int .u8 10)), (.t 57), (.t 61)]
 (.rd (some 8) none (.mov (.t 62))
 .done)))))) (.cl false (some 56) none (.c (.fn (.func 60) [] [])) [(.t 55), (.c (.int .i64 0))]
 (.alt (.rd (some 52) none (.load true 1 (.t 4))
 (.cl false (some 57) none (.c (.fn (.func 43) [] [])) [(.t 53), (.c (.int .u8 16)), (.t 54), (.t 56)]
 (.cl false (some 61) none (.c (.fn (.func 60) [] [])) [(.t 58), (.t 60)]
 (.cl false (some 62) none (.c (.fn (.func 43) [] [])) [(.t 52), (.c (.int .u8 10)), (.t 57), (.t 61)]
 (.rd (some 8) none (.mov (.t 62))
 .done))))) (.cl false (some 57) none (.c (.fn (.func 43) [] [])) [(.t 53), (.c (.int .u8 16)), (.t 54), (.t 56)]
 (.alt (.rd (some 52) none (.load true 1 (.t 4))
 (.cl false (some 61) none (.c (.fn (.func 60) [] [])) [(.t 58), (.t 60)]
 (.cl false (some 62) none (.c (.fn (.func 43) [] [])) [(.t 52), (.c (.int .u8 10)), (.t 57), (.t 61)]
 (.rd (some 8) none (.mov (.t 62))
 .done)))) (.cl false (some 61) none (.c (.fn (.func 60) [] [])) [(.t 58), (.t 60)]
 (.rd (some 52) none (.load true 1 (.t 4))
 (.cl false (some 62) none (.c (.fn (.func 43) [] [])) [(.t 52), (.c (.int .u8 10)), (.t 57), (.t 61)]
 (.rd (some 8) none (.mov (.t 62))
 .done))))))))))))) (.alt (.cl false (some 56) none (.c (.fn (.func 60) [] [])) [(.t 55), (.c (.int .i64 0))]
 (.alt (.rd (some 52) none (.load true 1 (.t 4))
 (.alt (.rd (some 53) none (.load true 1 (.t 4))
 (.alt (.cl false (some 57) none (.c (.fn (.func 43) [] [])) [(.t 53), (.c (.int .u8 16)), (.t 54), (.t 56)]
 (.rd (some 58) none (.load true 1 (.t 4))
 (.cl false (some 61) none (.c (.fn (.func 60) [] [])) [(.t 58), (.t 60)]
 (.cl false (some 62) none (.c (.fn (.func 43) [] [])) [(.t 52), (.c (.int .u8 10)), (.t 57), (.t 61)]
 (.rd (some 8) none (.mov (.t 62))
 .done))))) (.rd (some 58) none (.load true 1 (.t 4))
 (.cl false (some 57) none (.c (.fn (.func 43) [] [])) [(.t 53), (.c (.int .u8 16)), (.t 54), (.t 56)]
 (.cl false (some 61) none (.c (.fn (.func 60) [] [])) [(.t 58), (.t 60)]
 (.cl false (some 62) none (.c (.fn (.func 43) [] [])) [(.t 52), (.c (.int .u8 10)), (.t 57), (.t 61)]
 (.rd (some 8) none (.mov (.t 62))
 .done))))))) (.rd (some 58) none (.load true 1 (.t 4))
 (.rd (some 53) none (.load true 1 (.t 4))
 (.cl false (some 57) none (.c (.fn (.func 43) [] [])) [(.t 53), (.c (.int .u8 16)), (.t 54), (.t 56)]
 (.cl false (some 61) none (.c (.fn (.func 60) [] [])) [(.t 58), (.t 60)]
 (.cl false (some 62) none (.c (.fn (.func 43) [] [])) [(.t 52), (.c (.int .u8 10)), (.t 57), (.t 61)]
 (.rd (some 8) none (.mov (.t 62))
 .done)))))))) (.alt (.rd (some 53) none (.load true 1 (.t 4))
 (.alt (.rd (some 52) none (.load true 1 (.t 4))
 (.alt (.cl false (some 57) none (.c (.fn (.func 43) [] [])) [(.t 53), (.c (.int .u8 16)), (.t 54), (.t 56)]
 (.rd (some 58) none (.load true 1 (.t 4))
 (.cl false (some 61) none (.c (.fn (.func 60) [] [])) [(.t 58), (.t 60)]
 (.cl false (some 62) none (.c (.fn (.func 43) [] [])) [(.t 52), (.c (.int .u8 10)), (.t 57), (.t 61)]
 (.rd (some 8) none (.mov (.t 62))
 .done))))) (.rd (some 58) none (.load true 1 (.t 4))
 (.cl false (some 57) none (.c (.fn (.func 43) [] [])) [(.t 53), (.c (.int .u8 16)), (.t 54), (.t 56)]
 (.cl false (some 61) none (.c (.fn (.func 60) [] [])) [(.t 58), (.t 60)]
 (.cl false (some 62) none (.c (.fn (.func 43) [] [])) [(.t 52), (.c (.int .u8 10)), (.t 57), (.t 61)]
 (.rd (some 8) none (.mov (.t 62))
 .done))))))) (.alt (.cl false (some 57) none (.c (.fn (.func 43) [] [])) [(.t 53), (.c (.int .u8 16)), (.t 54), (.t 56)]
 (.alt (.rd (some 52) none (.load true 1 (.t 4))
 (.rd (some 58) none (.load true 1 (.t 4))
 (.cl false (some 61) none (.c (.fn (.func 60) [] [])) [(.t 58), (.t 60)]
 (.cl false (some 62) none (.c (.fn (.func 43) [] [])) [(.t 52), (.c (.int .u8 10)), (.t 57), (.t 61)]
 (.rd (some 8) none (.mov (.t 62))
 .done))))) (.rd (some 58) none (.load true 1 (.t 4))
 (.alt (.rd (some 52) none (.load true 1 (.t 4))
 (.cl false (some 61) none (.c (.fn (.func 60) [] [])) [(.t 58), (.t 60)]
 (.cl false (some 62) none (.c (.fn (.func 43) [] [])) [(.t 52), (.c (.int .u8 10)), (.t 57), (.t 61)]
 (.rd (some 8) none (.mov (.t 62))
 .done)))) (.cl false (some 61) none (.c (.fn (.func 60) [] [])) [(.t 58), (.t 60)]
 (.rd (some 52) none (.load true 1 (.t 4))
 (.cl false (some 62) none (.c (.fn (.func 43) [] [])) [(.t 52), (.c (.int .u8 10)), (.t 57), (.t 61)]
 (.rd (some 8) none (.mov (.t 62))
 .done)))))))) (.rd (some 58) none (.load true 1 (.t 4))
 (.alt (.rd (some 52) none (.load true 1 (.t 4))
 (.cl false (some 57) none (.c (.fn (.func 43) [] [])) [(.t 53), (.c (.int .u8 16)), (.t 54), (.t 56)]
 (.cl false (some 61) none (.c (.fn (.func 60) [] [])) [(.t 58), (.t 60)]
 (.cl false (some 62) none (.c (.fn (.func 43) [] [])) [(.t 52), (.c (.int .u8 10)), (.t 57), (.t 61)]
 (.rd (some 8) none (.mov (.t 62))
 .done))))) (.cl false (some 57) none (.c (.fn (.func 43) [] [])) [(.t 53), (.c (.int .u8 16)), (.t 54), (.t 56)]
 (.alt (.rd (some 52) none (.load true 1 (.t 4))
 (.cl false (some 61) none (.c (.fn (.func 60) [] [])) [(.t 58), (.t 60)]
 (.cl false (some 62) none (.c (.fn (.func 43) [] [])) [(.t 52), (.c (.int .u8 10)), (.t 57), (.t 61)]
 (.rd (some 8) none (.mov (.t 62))
 .done)))) (.cl false (some 61) none (.c (.fn (.func 60) [] [])) [(.t 58), (.t 60)]
 (.rd (some 52) none (.load true 1 (.t 4))
 (.cl false (some 62) none (.c (.fn (.func 43) [] [])) [(.t 52), (.c (.int .u8 10)), (.t 57), (.t 61)]
 (.rd (some 8) none (.mov (.t 62))
 .done))))))))))) (.rd (some 58) none (.load true 1 (.t 4))
 (.alt (.rd (some 52) none (.load true 1 (.t 4))
 (.rd (some 53) none (.load true 1 (.t 4))
 (.cl false (some 57) none (.c (.fn (.func 43) [] [])) [(.t 53), (.c (.int .u8 16)), (.t 54), (.t 56)]
 (.cl false (some 61) none (.c (.fn (.func 60) [] [])) [(.t 58), (.t 60)]
 (.cl false (some 62) none (.c (.fn (.func 43) [] [])) [(.t 52), (.c (.int .u8 10)), (.t 57), (.t 61)]
 (.rd (some 8) none (.mov (.t 62))
 .done)))))) (.rd (some 53) none (.load true 1 (.t 4))
 (.alt (.rd (some 52) none (.load true 1 (.t 4))
 (.cl false (some 57) none (.c (.fn (.func 43) [] [])) [(.t 53), (.c (.int .u8 16)), (.t 54), (.t 56)]
 (.cl false (some 61) none (.c (.fn (.func 60) [] [])) [(.t 58), (.t 60)]
 (.cl false (some 62) none (.c (.fn (.func 43) [] [])) [(.t 52), (.c (.int .u8 10)), (.t 57), (.t 61)]
 (.rd (some 8) none (.mov (.t 62))
 .done))))) (.cl false (some 57) none (.c (.fn (.func 43) [] [])) [(.t 53), (.c (.int .u8 16)), (.t 54), (.t 56)]
 (.alt (.rd (some 52) none (.load true 1 (.t 4))
 (.cl false (some 61) none (.c (.fn (.func 60) [] [])) [(.t 58), (.t 60)]
 (.cl false (some 62) none (.c (.fn (.func 43) [] [])) [(.t 52), (.c (.int .u8 10)), (.t 57), (.t 61)]
 (.rd (some 8) none (.mov (.t 62))
 .done)))) (.cl false (some 61) none (.c (.fn (.func 60) [] [])) [(.t 58), (.t 60)]
 (.rd (some 52) none (.load true 1 (.t 4))
 (.cl false (some 62) none (.c (.fn (.func 43) [] [])) [(.t 52), (.c (.int .u8 10)), (.t 57), (.t 61)]
 (.rd (some 8) none (.mov (.t 62))
 .done))))))))))))) (.rd (some 58) none (.load true 1 (.t 4))
 (.alt (.rd (some 52) none (.load true 1 (.t 4))
 (.alt (.rd (some 53) none (.load true 1 (.t 4))
 (.cl false (some 56) none (.c (.fn (.func 60) [] [])) [(.t 55), (.c (.int .i64 0))]
 (.cl false (some 57) none (.c (.fn (.func 43) [] [])) [(.t 53), (.c (.int .u8 16)), (.t 54), (.t 56)]
 (.cl false (some 61) none (.c (.fn (.func 60) [] [])) [(.t 58), (.t 60)]
 (.cl false (some 62) none (.c (.fn (.func 43) [] [])) [(.t 52), (.c (.int .u8 10)), (.t 57), (.t 61)]
 (.rd (some 8) none (.mov (.t 62))
 .done)))))) (.cl false (some 56) none (.c (.fn (.func 60) [] [])) [(.t 55), (.c (.int .i64 0))]
 (.rd (some 53) none (.load true 1 (.t 4))
 (.cl false (some 57) none (.c (.fn (.func 43) [] [])) [(.t 53), (.c (.int .u8 16)), (.t 54), (.t 56)]
 (.cl false (some 61) none (.c (.fn (.func 60) [] [])) [(.t 58), (.t 60)]
 (.cl false (some 62) none (.c (.fn (.func 43) [] [])) [(.t 52), (.c (.int .u8 10)), (.t 57), (.t 61)]
 (.rd (some 8) none (.mov (.t 62))
 .done)))))))) (.alt (.rd (some 53) none (.load true 1 (.t 4))
 (.alt (.rd (some 52) none (.load true 1 (.t 4))
 (.cl false (some 56) none (.c (.fn (.func 60) [] [])) [(.t 55), (.c (.int .i64 0))]
 (.cl false (some 57) none (.c (.fn (.func 43) [] [])) [(.t 53), (.c (.int .u8 16)), (.t 54), (.t 56)]
 (.cl false (some 61) none (.c (.fn (.func 60) [] [])) [(.t 58), (.t 60)]
 (.cl false (some 62) none (.c (.fn (.func 43) [] [])) [(.t 52), (.c (.int .u8 10)), (.t 57), (.t 61)]
 (.rd (some 8) none (.mov (.t 62))
 .done)))))) (.cl false (some 56) none (.c (.fn (.func 60) [] [])) [(.t 55), (.c (.int .i64 0))]
 (.alt (.rd (some 52) none (.load true 1 (.t 4))
 (.cl false (some 57) none (.c (.fn (.func 43) [] [])) [(.t 53), (.c (.int .u8 16)), (.t 54), (.t 56)]
 (.cl false (some 61) none (.c (.fn (.func 60) [] [])) [(.t 58), (.t 60)]
 (.cl false (some 62) none (.c (.fn (.func 43) [] [])) [(.t 52), (.c (.int .u8 10)), (.t 57), (.t 61)]
 (.rd (some 8) none (.mov (.t 62))
 .done))))) (.cl false (some 57) none (.c (.fn (.func 43) [] [])) [(.t 53), (.c (.int .u8 16)), (.t 54), (.t 56)]
 (.alt (.rd (some 52) none (.load true 1 (.t 4))
 (.cl false (some 61) none (.c (.fn (.func 60) [] [])) [(.t 58), (.t 60)]
 (.cl false (some 62) none (.c (.fn (.func 43) [] [])) [(.t 52), (.c (.int .u8 10)), (.t 57), (.t 61)]
 (.rd (some 8) none (.mov (.t 62))
 .done)))) (.cl false (some 61) none (.c (.fn (.func 60) [] [])) [(.t 58), (.t 60)]
 (.rd (some 52) none (.load true 1 (.t 4))
 (.cl false (some 62) none (.c (.fn (.func 43) [] [])) [(.t 52), (.c (.int .u8 10)), (.t 57), (.t 61)]
 (.rd (some 8) none (.mov (.t 62))
 .done)))))))))) (.cl false (some 56) none (.c (.fn (.func 60) [] [])) [(.t 55), (.c (.int .i64 0))]
 (.alt (.rd (some 52) none (.load true 1 (.t 4))
 (.rd (some 53) none (.load true 1 (.t 4))
 (.cl false (some 57) none (.c (.fn (.func 43) [] [])) [(.t 53), (.c (.int .u8 16)), (.t 54), (.t 56)]
 (.cl false (some 61) none (.c (.fn (.func 60) [] [])) [(.t 58), (.t 60)]
 (.cl false (some 62) none (.c (.fn (.func 43) [] [])) [(.t 52), (.c (.int .u8 10)), (.t 57), (.t 61)]
 (.rd (some 8) none (.mov (.t 62))
 .done)))))) (.rd (some 53) none (.load true 1 (.t 4))
 (.alt (.rd (some 52) none (.load true 1 (.t 4))
 (.cl false (some 57) none (.c (.fn (.func 43) [] [])) [(.t 53), (.c (.int .u8 16)), (.t 54), (.t 56)]
 (.cl false (some 61) none (.c (.fn (.func 60) [] [])) [(.t 58), (.t 60)]
 (.cl false (some 62) none (.c (.fn (.func 43) [] [])) [(.t 52), (.c (.int .u8 10)), (.t 57), (.t 61)]
 (.rd (some 8) none (.mov (.t 62))
 .done))))) (.cl false (some 57) none (.c (.fn (.func 43) [] [])) [(.t 53), (.c (.int .u8 16)), (.t 54), (.t 56)]
 (.alt (.rd (some 52) none (.load true 1 (.t 4))
 (.cl false (some 61) none (.c (.fn (.func 60) [] [])) [(.t 58), (.t 60)]
 (.cl false (some 62) none (.c (.fn (.func 43) [] [])) [(.t 52), (.c (.int .u8 10)), (.t 57), (.t 61)]
 (.rd (some 8) none (.mov (.t 62))
 .done)))) (.cl false (some 61) none (.c (.fn (.func 60) [] [])) [(.t 58), (.t 60)]
 (.rd (some 52) none (.load true 1 (.t 4))
 (.cl false (some 62) none (.c (.fn (.func 43) [] [])) [(.t 52), (.c (.int .u8 10)), (.t 57), (.t 61)]
 (.rd (some 8) none (.mov (.t 62))
 .done))))))))))))))))))))
def zq2m_11 : AT := (.rd (some 64) none (.load true 1 (.t 4))
 (.rd (some 65) none (.mov (.t 2))
 (.cl false (some 66) none (.c (.fn (.func 92) [] [])) [(.t 64), (.t 65), (.c (.int .u8 16))]
 (.rd (some 63) none (.mov (.t 66))
 (.rd (some 67) none (.extr (.t 63) 0)
 (.rd (some 68) none (.extr (.t 63) 1)
 (.rd (some 69) none (.extr (.t 63) 2)
 (.rd (some 9) none (.mov (.t 67))
 (.rd (some 10) none (.mov (.t 68))
 (.rd (some 11) none (.mov (.t 69))
 .done))))))))))
def zq2m_12 : AT := (.rd (some 70) none (.mov (.t 1))
 (.rd (some 71) none (.bin .eql (.t 70) (.c (.int .u8 16)))
 (.rd (some 72) none (.mov (.t 71))
 (.rd (some 73) (some (72, true)) (.mov (.t 11))
 (.rd (some 74) none (.pick (.t 72) (.t 73) (.c (.bool false)))
 (.rd (some 75) none (.mov (.t 74))
 (.rd (some 76) (some (75, true)) (.mov (.t 10))
 (.rd (some 77) (some (75, true)) (.bin .eql (.t 76) (.c (.int .i64 0)))
 (.rd (some 78) none (.pick (.t 75) (.t 77) (.c (.bool false)))
 (.rd (some 79) none (.mov (.t 78))
 (.rd (some 80) (some (79, true)) (.faddr 0 (.t 4))
 (.rd (some 81) (some (79, true)) (.load false 1 (.t 80))
 (.rd (some 82) (some (79, true)) (.mov (.t 9))
 (.cl false (some 83) (some (79, true)) (.c (.fn (.func 31) [] [])) [(.t 81), (.t 82)]
 (.rd (some 84) none (.pick (.t 79) (.t 83) (.c (.bool false)))
 .done)))))))))))))))
def zq2m_13 : AT := (.rd (some 85) none (.mov (.t 9))
 (.rd (some 8) none (.mov (.t 85))
 .done))
def zq2m_14 : AT := (.rd (some 8) none (.mov (.c (.int .i64 (-1))))
 .done)
def norm_maker_truth : AF := ⟨86, [.tmp 8],
  (.seq (.reg zq2m_0 [])
  (.seq (.block 0 (.seq (.reg zq2m_1 [13, 14, 15, 16, 17])
  (.cond (.t 12)
  (.seq (.reg zq2m_2 [])
  .ret)
  (.seq (.seq (.reg zq2m_3 [19, 20, 21, 22, 23, 24, 25])
  (.cond (.t 18)
  .skip
  (.reg zq2m_4 [26, 27, 28, 29, 30, 31])))
  (.cond (.t 18)
  (.seq (.reg zq2m_5 [32])
  .ret)
  (.seq (.seq (.reg zq2m_6 [34, 35])
  (.cond (.t 33)
  .skip
  (.reg zq2m_7 [36, 37, 38, 39, 40, 41])))
  (.cond (.t 33)
  (.seq (.reg zq2m_8 [42, 43])
  .ret)
  (.seq (.reg zq2m_9 [45, 46, 47, 48, 49, 50, 51])
  (.cond (.t 44)
  (.seq (.reg zq2m_10 [52, 53, 54, 55, 56, 57, 58, 59, 60, 61, 62])
  .ret)
  .skip)))))))))
  (.seq (.reg zq2m_11 [64, 65, 66, 63, 67, 68, 69])
  (.seq (.seq (.reg zq2m_12 [70, 71, 72, 73, 74, 75, 76, 77, 78, 79, 80, 81, 82, 83])
  (.cond (.t 84)
  (.seq (.reg zq2m_13 [85])
  .ret)
  .skip))
  (.seq (.reg zq2m_14 [])
  .ret)))))⟩
abbrev n_norm_maker_truth : Nat := 97
abbrev n_slices_IndexFunc_value_Cell_value_Cell : Nat := 98
abbrev n_value_Env_Cell_S1 : Nat := 99
abbrev n_slices_pdqsortOrdered_term_ID : Nat := 100
abbrev n_math_bits_Len : Nat := 101
abbrev n_internal_strconv_FormatInt : Nat := 102
abbrev n_internal_strconv_Itoa : Nat := 103
/- (proofmark/norm.maker).of -/
def zq2t_0 : AT := (.wr false (some 3) none (.box 76 (.t 0))
 (.rd (some 6) none (.mov (.c (.int .i64 0)))
 (.rd (some 7) none (.mov (.c (.int .i64 0)))
 (.rd (some 8) none (.mov (.c (.bool false)))
 .done))))
def zq2t_1 : AT := (.rd (some 12) none (.faddr 0 (.t 3))
 (.rd (some 13) none (.load false 1 (.t 12))
 (.rd (some 14) none (.mov (.t 1))
 (.cl false (some 15) none (.c (.fn (.func 29) [] [])) [(.t 13), (.t 14)]
 (.rd (some 11) none (.mov (.t 15))
 (.rd (some 16) none (.extr (.t 11) 0)
 (.rd (some 17) none (.extr (.t 11) 1)
 (.wr false (some 9) none (.new 57 [(.int .u8 0), (.int .i64 0), (.int .i64 0), (.int .u8 0), (.int .i64 0), (.int .i64 0)])
 (.wr false none none (.store 6 (.t 9) (.t 16))
 (.rd (some 10) none (.mov (.t 17))
 .done))))))))))
def zq2t_2 : AT := (.rd (some 18) none (.faddr 0 (.t 9))
 (.rd (some 19) none (.load false 1 (.t 18))
 (.rd (some 20) none (.bin .neq (.t 19) (.c (.int .u8 4)))
 (.rd (some 21) none (.mov (.t 20))
 (.rd (some 22) (some (21, false)) (.faddr 3 (.t 9))
 (.rd (some 23) (some (21, false)) (.load false 1 (.t 22))
 (.rd (some 24) (some (21, false)) (.mov (.t 2))
 (.rd (some 25) (some (21, false)) (.bin .neq (.t 23) (.t 24))
 (.rd (some 26) none (.pick (.t 21) (.c (.bool true)) (.t 25))
 .done)))))))))
def zq2t_3 : AT := (.rd (some 6) none (.mov (.c (.int .i64 0)))
 (.rd (some 7) none (.mov (.c (.int .i64 0)))
 (.rd (some 8) none (.mov (.c (.bool false)))
 .done)))
def zq2t_4 : AT := (.rd (some 27) none (.faddr 4 (.t 9))
 (.rd (some 28) none (.load false 1 (.t 27))
 (.rd (some 29) none (.faddr 5 (.t 9))
 (.rd (some 30) none (.load false 1 (.t 29))
 (.rd (some 6) none (.mov (.t 28))
 (.rd (some 7) none (.mov (.t 30))
 (.rd (some 8) none (.mov (.c (.bool true)))
 .done)))))))
def norm_maker_of : AF := ⟨31, [.tmp 6, .tmp 7, .tmp 8],
  (.seq (.reg zq2t_0 [])
  (.seq (.reg zq2t_1 [12, 13, 14, 15, 11, 16, 17, 10])
  (.seq (.seq (.reg zq2t_2 [18, 19, 20, 21, 22, 23, 24, 25])
  (.cond (.t 26)
  (.seq (.reg zq2t_3 [])
  .ret)
  .skip))
  (.seq (.reg zq2t_4 [27, 28, 29, 30])
  .ret))))⟩
abbrev n_norm_maker_of : Nat := 104
/- proofmark/word.Power -/
def zq2u_0 : AT := (.rd (some 2) none (.mov (.c (.int .i64 0)))
 (.rd (some 3) none (.mov (.c (.bool false)))
 .done))
def zq2u_1 : AT := (.rd (some 4) none (.mov (.t 0))
 (.rd (some 5) none (.conv .u64 (.t 4))
 (.cl false (some 6) none (.c (.fn (.func 121) [] [])) [(.t 5)]
 (.rd (some 7) none (.bin .neq (.t 6) (.c (.int .i64 1)))
 .done))))
def zq2u_2 : AT := (.rd (some 2) none (.mov (.c (.int .i64 0)))
 (.rd (some 3) none (.mov (.c (.bool false)))
 .done))
def zq2u_3 : AT := (.rd (some 8) none (.mov (.t 0))
 (.rd (some 9) none (.conv .u64 (.t 8))
 (.cl false (some 10) none (.c (.fn (.func 122) [] [])) [(.t 9)]
 (.rd (some 2) none (.mov (.t 10))
 (.rd (some 3) none (.mov (.c (.bool true)))
 .done)))))
def word_Power : AF := ⟨11, [.tmp 2, .tmp 3],
  (.seq (.reg zq2u_0 [])
  (.seq (.seq (.reg zq2u_1 [4, 5, 6])
  (.cond (.t 7)
  (.seq (.reg zq2u_2 [])
  .ret)
  .skip))
  (.seq (.reg zq2u_3 [8, 9, 10])
  .ret)))⟩
abbrev n_word_Power : Nat := 105
abbrev n_slices_insertionSortOrdered_term_ID : Nat := 106
abbrev n_slices_heapSortOrdered_term_ID : Nat := 107
abbrev n_slices_breakPatternsOrdered_term_ID : Nat := 108
abbrev n_slices_choosePivotOrdered_term_ID : Nat := 109
abbrev n_slices_reverseRangeOrdered_term_ID : Nat := 110
abbrev n_slices_partialInsertionSortOrdered_term_ID : Nat := 111
abbrev n_cmp_Less_term_ID : Nat := 112
abbrev n_slices_partitionEqualOrdered_term_ID : Nat := 113
abbrev n_slices_partitionOrdered_term_ID : Nat := 114
abbrev n_math_bits_Len32 : Nat := 115
abbrev n_math_bits_Len64 : Nat := 116
abbrev n_internal_strconv_small : Nat := 117
abbrev n_internal_strconv_numDigits : Nat := 118
abbrev n_internal_strconv_formatBase10 : Nat := 119
abbrev n_internal_strconv_formatBits : Nat := 120
/- math/bits.OnesCount64 -/
def zq3a_0 : AT := (.rd (some 2) none (.mov (.c (.int .i64 0)))
 .done)
def zq3a_1 : AT := (.rd (some 3) none (.mov (.t 0))
 (.rd (some 4) none (.bin .shr (.t 3) (.c (.int .u64 1)))
 (.rd (some 5) none (.bin .and (.t 4) (.c (.int .u64 6148914691236517205)))
 (.rd (some 6) none (.mov (.t 0))
 (.rd (some 7) none (.bin .and (.t 6) (.c (.int .u64 6148914691236517205)))
 (.rd (some 8) none (.bin .add (.t 5) (.t 7))
 (.rd (some 0) none (.mov (.t 8))
 .done)))))))
def zq3a_2 : AT := (.rd (some 9) none (.mov (.t 0))
 (.rd (some 10) none (.bin .shr (.t 9) (.c (.int .u64 2)))
 (.rd (some 11) none (.bin .and (.t 10) (.c (.int .u64 3689348814741910323)))
 (.rd (some 12) none (.mov (.t 0))
 (.rd (some 13) none (.bin .and (.t 12) (.c (.int .u64 3689348814741910323)))
 (.rd (some 14) none (.bin .add (.t 11) (.t 13))
 (.rd (some 0) none (.mov (.t 14))
 .done)))))))
def zq3a_3 : AT := (.rd (some 15) none (.mov (.t 0))
 (.rd (some 16) none (.bin .shr (.t 15) (.c (.int .u64 4)))
 (.rd (some 17) none (.mov (.t 0))
 (.rd (some 18) none (.bin .add (.t 16) (.t 17))
 (.rd (some 19) none (.bin .and (.t 18) (.c (.int .u64 1085102592571150095)))
 (.rd (some 0) none (.mov (.t 19))
 .done))))))
def zq3a_4 : AT := (.rd (some 20) none (.mov (.t 0))
 (.rd (some 21) none (.mov (.t 0))
 (.rd (some 22) none (.bin .shr (.t 21) (.c (.int .u64 8)))
 (.rd (some 23) none (.bin .add (.t 20) (.t 22))
 (.rd (some 0) none (.mov (.t 23))
 .done)))))
def zq3a_5 : AT := (.rd (some 24) none (.mov (.t 0))
 (.rd (some 25) none (.mov (.t 0))
 (.rd (some 26) none (.bin .shr (.t 25) (.c (.int .u64 16)))
 (.rd (some 27) none (.bin .add (.t 24) (.t 26))
 (.rd (some 0) none (.mov (.t 27))
 .done)))))
def zq3a_6 : AT := (.rd (some 28) none (.mov (.t 0))
 (.rd (some 29) none (.mov (.t 0))
 (.rd (some 30) none (.bin .shr (.t 29) (.c (.int .u64 32)))
 (.rd (some 31) none (.bin .add (.t 28) (.t 30))
 (.rd (some 0) none (.mov (.t 31))
 .done)))))
def zq3a_7 : AT := (.rd (some 32) none (.mov (.t 0))
 (.rd (some 33) none (.conv .i64 (.t 32))
 (.rd (some 34) none (.bin .and (.t 33) (.c (.int .i64 127)))
 (.rd (some 2) none (.mov (.t 34))
 .done))))
def math_bits_OnesCount64 : AF := ⟨35, [.tmp 2],
  (.seq (.reg zq3a_0 [])
  (.seq (.reg zq3a_1 [3, 4, 5, 6, 7, 8])
  (.seq (.reg zq3a_2 [9, 10, 11, 12, 13, 14])
  (.seq (.reg zq3a_3 [15, 16, 17, 18, 19])
  (.seq (.reg zq3a_4 [20, 21, 22, 23])
  (.seq (.reg zq3a_5 [24, 25, 26, 27])
  (.seq (.reg zq3a_6 [28, 29, 30, 31])
  (.seq (.reg zq3a_7 [32, 33, 34])
  .ret))))))))⟩
abbrev n_math_bits_OnesCount64 : Nat := 121
/- math/bits.TrailingZeros64 -/
def zq3b_0 : AT := (.rd (some 2) none (.mov (.c (.int .i64 0)))
 .done)
def zq3b_1 : AT := (.rd (some 3) none (.mov (.t 0))
 (.rd (some 4) none (.bin .eql (.t 3) (.c (.int .u64 0)))
 .done))
def zq3b_2 : AT := (.rd (some 2) none (.mov (.c (.int .i64 64)))
 .done)
def zq3b_3 : AT := (.rd (some 5) none (.mov (.t 0))
 (.rd (some 6) none (.mov (.t 0))
 (.rd (some 7) none (.un .neg (.t 6))
 (.rd (some 8) none (.bin .and (.t 5) (.t 7))
 (.rd (some 9) none (.bin .mul (.t 8) (.c (.int .u64 285870213051353865)))
 (.rd (some 10) none (.bin .shr (.t 9) (.c (.int .u64 58)))
 (.rd (some 11) none (.iaddr (some 64) 1 (.g 1) (.t 10))
 (.rd (some 12) none (.load false 1 (.t 11))
 (.rd (some 13) none (.conv .i64 (.t 12))
 (.rd (some 2) none (.mov (.t 13))
 .done))))))))))
def math_bits_TrailingZeros64 : AF := ⟨14, [.tmp 2],
  (.seq (.reg zq3b_0 [])
  (.seq (.seq (.reg zq3b_1 [3])
  (.cond (.t 4)
  (.seq (.reg zq3b_2 [])
  .ret)
  .skip))
  (.seq (.reg zq3b_3 [5, 6, 7, 8, 9, 10, 11, 12, 13])
  .ret)))⟩
abbrev n_math_bits_TrailingZeros64 : Nat := 122
abbrev n_slices_siftDownOrdered_term_ID : Nat := 123
abbrev n_slices_nextPowerOfTwo : Nat := 124
abbrev n_slices_xorshift_Next : Nat := 125
abbrev n_slices_medianAdjacentOrdered_term_ID : Nat := 126
abbrev n_slices_medianOrdered_term_ID : Nat := 127
abbrev n_cmp_isNaN_term_ID : Nat := 128
abbrev n_internal_strconv_log10Pow2 : Nat := 129
abbrev n_internal_strconv_bool2_int : Nat := 130
abbrev n_internal_strconv_isPowerOfTwo : Nat := 131
abbrev n_math_bits_TrailingZeros : Nat := 132
abbrev n_slices_order2Ordered_term_ID : Nat := 133
abbrev n_math_bits_TrailingZeros32 : Nat := 134
abbrev n_gosem_cut_vars : Nat := 156
def tab : Nat → Option AF
  | 5 => some proofmarklaw04_NormChains
  | 9 => some proofmarklaw04_works
  | 10 => some proofmarklaw04_plains
  | 12 => some norm_Const
  | 13 => some norm_Bin
  | 14 => some word_Do
  | 15 => some word_Swaps
  | 16 => some word_Groups
  | 17 => some word_Keeps
  | 20 => some proofmarklaw04_num
  | 21 => some norm_Not
  | 22 => some proofmarkkit_Pick
  | 23 => some word_All
  | 25 => some proofmarkkit_Made
  | 26 => some term_Graph_Size
  | 27 => some proofmarklaw04_at
  | 29 => some term_Graph_Node
  | 30 => some norm_Number
  | 31 => some norm_Bool
  | 35 => some norm_Of
  | 37 => some term_New
  | 38 => some norm_Sym
  | 39 => some term_Graph_Text
  | 40 => some norm_Cell
  | 41 => some term_Graph_Add
  | 42 => some word_Known
  | 43 => some norm_maker_bin
  | 44 => some word_of
  | 46 => some term_Graph_is
  | 47 => some norm_is
  | 56 => some term_Graph_Uses
  | 57 => some term_words
  | 58 => some term_Graph_may
  | 59 => some term_parts
  | 60 => some norm_maker_num
  | 61 => some norm_maker_same
  | 62 => some norm_maker_number
  | 63 => some word_of_S1
  | 64 => some word_of_S2
  | 65 => some word_of_S3
  | 66 => some word_div
  | 67 => some word_rem
  | 68 => some word_divU
  | 69 => some word_remU
  | 70 => some word_of_S4
  | 71 => some word_of_S5
  | 72 => some word_of_S6
  | 73 => some word_of_S7
  | 74 => some word_of_S8
  | 75 => some word_of_S9
  | 76 => some word_of_S10
  | 77 => some word_one
  | 78 => some word_of_S11
  | 79 => some word_of_S12
  | 85 => some term_Graph_Uses_S1
  | 86 => some slices_Sort_term_ID_term_ID
  | 87 => some strconv_FormatInt
  | 88 => some strconv_Itoa
  | 89 => some term_sign
  | 90 => some term_bare
  | 91 => some norm_maker_number_S1
  | 92 => some norm_maker_tail
  | 93 => some norm_maker_number_S2
  | 94 => some norm_maker_equal
  | 95 => some norm_maker_fixed
  | 96 => some norm_maker_moved
  | 97 => some norm_maker_truth
  | 104 => some norm_maker_of
  | 105 => some word_Power
  | 121 => some math_bits_OnesCount64
  | 122 => some math_bits_TrailingZeros64
  | _ => none
theorem t_proofmarklaw04_NormChains : tab n_proofmarklaw04_NormChains = some proofmarklaw04_NormChains := rfl
theorem t_proofmarklaw04_works : tab n_proofmarklaw04_works = some proofmarklaw04_works := rfl
theorem t_proofmarklaw04_plains : tab n_proofmarklaw04_plains = some proofmarklaw04_plains := rfl
theorem t_norm_Const : tab n_norm_Const = some norm_Const := rfl
theorem t_norm_Bin : tab n_norm_Bin = some norm_Bin := rfl
theorem t_word_Do : tab n_word_Do = some word_Do := rfl
theorem t_word_Swaps : tab n_word_Swaps = some word_Swaps := rfl
theorem t_word_Groups : tab n_word_Groups = some word_Groups := rfl
theorem t_word_Keeps : tab n_word_Keeps = some word_Keeps := rfl
theorem t_proofmarklaw04_num : tab n_proofmarklaw04_num = some proofmarklaw04_num := rfl
theorem t_norm_Not : tab n_norm_Not = some norm_Not := rfl
theorem t_proofmarkkit_Pick : tab n_proofmarkkit_Pick = some proofmarkkit_Pick := rfl
theorem t_word_All : tab n_word_All = some word_All := rfl
theorem t_proofmarkkit_Made : tab n_proofmarkkit_Made = some proofmarkkit_Made := rfl
theorem t_term_Graph_Size : tab n_term_Graph_Size = some term_Graph_Size := rfl
theorem t_proofmarklaw04_at : tab n_proofmarklaw04_at = some proofmarklaw04_at := rfl
theorem t_term_Graph_Node : tab n_term_Graph_Node = some term_Graph_Node := rfl
theorem t_norm_Number : tab n_norm_Number = some norm_Number := rfl
theorem t_norm_Bool : tab n_norm_Bool = some norm_Bool := rfl
theorem t_norm_Of : tab n_norm_Of = some norm_Of := rfl
theorem t_term_New : tab n_term_New = some term_New := rfl
theorem t_norm_Sym : tab n_norm_Sym = some norm_Sym := rfl
theorem t_term_Graph_Text : tab n_term_Graph_Text = some term_Graph_Text := rfl
theorem t_norm_Cell : tab n_norm_Cell = some norm_Cell := rfl
theorem t_term_Graph_Add : tab n_term_Graph_Add = some term_Graph_Add := rfl
theorem t_word_Known : tab n_word_Known = some word_Known := rfl
theorem t_norm_maker_bin : tab n_norm_maker_bin = some norm_maker_bin := rfl
theorem t_word_of : tab n_word_of = some word_of := rfl
theorem t_term_Graph_is : tab n_term_Graph_is = some term_Graph_is := rfl
theorem t_norm_is : tab n_norm_is = some norm_is := rfl
theorem t_term_Graph_Uses : tab n_term_Graph_Uses = some term_Graph_Uses := rfl
theorem t_term_words : tab n_term_words = some term_words := rfl
theorem t_term_Graph_may : tab n_term_Graph_may = some term_Graph_may := rfl
theorem t_term_parts : tab n_term_parts = some term_parts := rfl
theorem t_norm_maker_num : tab n_norm_maker_num = some norm_maker_num := rfl
theorem t_norm_maker_same : tab n_norm_maker_same = some norm_maker_same := rfl
theorem t_norm_maker_number : tab n_norm_maker_number = some norm_maker_number := rfl
theorem t_word_of_S1 : tab n_word_of_S1 = some word_of_S1 := rfl
theorem t_word_of_S2 : tab n_word_of_S2 = some word_of_S2 := rfl
theorem t_word_of_S3 : tab n_word_of_S3 = some word_of_S3 := rfl
theorem t_word_div : tab n_word_div = some word_div := rfl
theorem t_word_rem : tab n_word_rem = some word_rem := rfl
theorem t_word_divU : tab n_word_divU = some word_divU := rfl
theorem t_word_remU : tab n_word_remU = some word_remU := rfl
theorem t_word_of_S4 : tab n_word_of_S4 = some word_of_S4 := rfl
theorem t_word_of_S5 : tab n_word_of_S5 = some word_of_S5 := rfl
theorem t_word_of_S6 : tab n_word_of_S6 = some word_of_S6 := rfl
theorem t_word_of_S7 : tab n_word_of_S7 = some word_of_S7 := rfl
theorem t_word_of_S8 : tab n_word_of_S8 = some word_of_S8 := rfl
theorem t_word_of_S9 : tab n_word_of_S9 = some word_of_S9 := rfl
theorem t_word_of_S10 : tab n_word_of_S10 = some word_of_S10 := rfl
theorem t_word_one : tab n_word_one = some word_one := rfl
theorem t_word_of_S11 : tab n_word_of_S11 = some word_of_S11 := rfl
theorem t_word_of_S12 : tab n_word_of_S12 = some word_of_S12 := rfl
theorem t_term_Graph_Uses_S1 : tab n_term_Graph_Uses_S1 = some term_Graph_Uses_S1 := rfl
theorem t_slices_Sort_term_ID_term_ID : tab n_slices_Sort_term_ID_term_ID = some slices_Sort_term_ID_term_ID := rfl
theorem t_strconv_FormatInt : tab n_strconv_FormatInt = some strconv_FormatInt := rfl
theorem t_strconv_Itoa : tab n_strconv_Itoa = some strconv_Itoa := rfl
theorem t_term_sign : tab n_term_sign = some term_sign := rfl
theorem t_term_bare : tab n_term_bare = some term_bare := rfl
theorem t_norm_maker_number_S1 : tab n_norm_maker_number_S1 = some norm_maker_number_S1 := rfl
theorem t_norm_maker_tail : tab n_norm_maker_tail = some norm_maker_tail := rfl
theorem t_norm_maker_number_S2 : tab n_norm_maker_number_S2 = some norm_maker_number_S2 := rfl
theorem t_norm_maker_equal : tab n_norm_maker_equal = some norm_maker_equal := rfl
theorem t_norm_maker_fixed : tab n_norm_maker_fixed = some norm_maker_fixed := rfl
theorem t_norm_maker_moved : tab n_norm_maker_moved = some norm_maker_moved := rfl
theorem t_norm_maker_truth : tab n_norm_maker_truth = some norm_maker_truth := rfl
theorem t_norm_maker_of : tab n_norm_maker_of = some norm_maker_of := rfl
theorem t_word_Power : tab n_word_Power = some word_Power := rfl
theorem t_math_bits_OnesCount64 : tab n_math_bits_OnesCount64 = some math_bits_OnesCount64 := rfl
theorem t_math_bits_TrailingZeros64 : tab n_math_bits_TrailingZeros64 = some math_bits_TrailingZeros64 := rfl
end Go.Proofs.YtpdeoalocejodaaGreatDoor
