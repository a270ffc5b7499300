/- The translations of the functions, by a program of mine. -/
import Derived.Test.YtingdebioipemaaDoorTabA
namespace Go.Proofs.YtingdebioipemaaDoor
open Go Go.Am
set_option maxRecDepth 100000
/- proofmark/clause.Clean -/
def zqi_0 : AT := (.rd (some 2) none (.mov (.c (.lst 0 [] true)))
 (.rd (some 3) none (.mov (.c (.bool false)))
 .done))
def zqi_1 : AT := (.rd (some 7) none (.mov (.t 0))
 (.cl false (some 8) none (.c (.fn (.func 26) [] [])) [(.t 7)]
 (.rd (some 4) none (.mov (.t 8))
 .done)))
def zqi_2 : AT := (.rd (some 9) none (.mov (.t 4))
 (.cl false (some 10) none (.c (.fn (.func 30) [] [])) [(.t 9), (.c (.fn (.func 47) [] []))]
 .done))
def zqi_3 : AT := (.rd (some 11) none (.mov (.t 4))
 (.cl false (some 12) none (.c (.fn (.func 49) [] [])) [(.t 11)]
 (.rd (some 4) none (.mov (.t 12))
 .done)))
def zqi_4 : AT := (.rd (some 13) none (.mov (.t 4))
 (.rd (some 14) none (.len 0 (.t 13))
 (.rd (some 15) none (.mov (.c (.int .i64 0)))
 .done)))
def zqi_5 : AT := (.rd (some 16) none (.bin .lss (.t 15) (.t 14))
 .done)
def zqi_6 : AT := (.rd (some 17) none (.mov (.t 15))
 (.rd (some 18) none (.iaddr none 1 (.t 13) (.t 15))
 (.rd (some 19) none (.load false 1 (.t 18))
 (.rd (some 5) none (.mov (.t 17))
 (.rd (some 6) none (.mov (.t 19))
 .done)))))
def zqi_7 : AT := (.rd (some 20) none (.mov (.t 6))
 (.rd (some 21) none (.bin .eql (.t 20) (.c (.int .i64 0)))
 (.rd (some 22) none (.mov (.t 21))
 (.rd (some 23) (some (22, false)) (.mov (.t 6))
 (.rd (some 24) (some (22, false)) (.bin .lss (.t 23) (.c (.int .i64 0)))
 (.rd (some 25) (some (22, false)) (.mov (.t 24))
 (.rd (some 26) (some (25, true)) (.mov (.t 6))
 (.rd (some 27) (some (25, true)) (.mov (.t 6))
 (.rd (some 28) (some (25, true)) (.un .neg (.t 27))
 (.rd (some 29) (some (25, true)) (.bin .eql (.t 26) (.t 28))
 (.rd (some 30) (some (22, false)) (.pick (.t 25) (.t 29) (.c (.bool false)))
 (.rd (some 31) none (.pick (.t 22) (.c (.bool true)) (.t 30))
 (.rd (some 32) none (.mov (.t 31))
 (.rd (some 33) (some (32, false)) (.mov (.t 5))
 (.rd (some 34) (some (32, false)) (.bin .gtr (.t 33) (.c (.int .i64 0)))
 (.rd (some 35) (some (32, false)) (.mov (.t 34))
 (.rd (some 36) (some (35, true)) (.mov (.t 4))
 (.rd (some 37) (some (35, true)) (.mov (.t 5))
 (.rd (some 38) (some (35, true)) (.bin .sub (.t 37) (.c (.int .i64 1)))
 (.rd (some 39) (some (35, true)) (.iaddr none 1 (.t 36) (.t 38))
 (.rd (some 40) (some (35, true)) (.load false 1 (.t 39))
 (.rd (some 41) (some (35, true)) (.mov (.t 6))
 (.rd (some 42) (some (35, true)) (.un .neg (.t 41))
 (.rd (some 43) (some (35, true)) (.bin .eql (.t 40) (.t 42))
 (.rd (some 44) (some (32, false)) (.pick (.t 35) (.t 43) (.c (.bool false)))
 (.rd (some 45) none (.pick (.t 32) (.c (.bool true)) (.t 44))
 .done))))))))))))))))))))))))))
def zqi_8 : AT := (.rd (some 2) none (.mov (.c (.lst 0 [] true)))
 (.rd (some 3) none (.mov (.c (.bool false)))
 .done))
def zqi_9 : AT := (.rd (some 46) none (.bin .add (.t 15) (.c (.int .i64 1)))
 (.rd (some 15) none (.mov (.t 46))
 .done))
def zqi_10 : AT := (.rd (some 47) none (.mov (.t 4))
 (.rd (some 2) none (.mov (.t 47))
 (.rd (some 3) none (.mov (.c (.bool true)))
 .done)))
def clause_Clean : AF := ⟨48, [.tmp 2, .tmp 3],
  (.seq (.reg zqi_0 [])
  (.seq (.reg zqi_1 [7, 8])
  (.seq (.reg zqi_2 [9, 10])
  (.seq (.reg zqi_3 [11, 12])
  (.seq (.seq (.reg zqi_4 [])
  (.block 0 (.loop (.seq (.reg zqi_5 [])
  (.seq (.cond (.t 16)
  .skip
  (.exit 0))
  (.seq (.block 1 (.seq (.reg zqi_6 [17, 18, 19])
  (.seq (.reg zqi_7 [20, 21, 22, 23, 24, 25, 26, 27, 28, 29, 30, 31, 32, 33, 34, 35, 36, 37, 38, 39, 40, 41, 42, 43, 44])
  (.cond (.t 45)
  (.seq (.reg zqi_8 [])
  .ret)
  .skip))))
  (.reg zqi_9 [46])))))))
  (.seq (.reg zqi_10 [47])
  .ret))))))⟩
abbrev n_clause_Clean : Nat := 21
/- proofmark/clause.Put -/
def zqj_0 : AT := (.wr false (some 1) none (.box 24 (.t 0))
 (.rd (some 2) none (.mov (.c (.lst 0 [] true)))
 (.rd (some 3) none (.mov (.c (.int .i64 0)))
 .done)))
def zqj_1 : AT := (.rd (some 9) none (.load true 2 (.t 1))
 (.cl false (some 10) none (.c (.fn (.func 9) [] [])) [(.t 9)]
 (.rd (some 11) none (.un .not (.t 10))
 .done)))
def zqj_2 : AT := (.rd (some 2) none (.mov (.c (.lst 0 [] true)))
 (.rd (some 3) none (.mov (.c (.int .i64 2)))
 .done))
def zqj_3 : AT := (.wr false (some 4) none (.new 70 [(.lst 0 [] true), (.int .i64 0), (.int .i8 0)])
 .done)
def zqj_4 : AT := (.rd (some 12) none (.faddr 0 (.t 1))
 (.rd (some 13) none (.load false 1 (.t 12))
 (.rd (some 17) none (.faddr 1 (.t 1))
 (.rd (some 18) none (.load false 1 (.t 17))
 (.rd (some 19) none (.len 0 (.t 18))
 (.cl true (some 14) none (.c (.fn (.func 51) [] [])) [(.t 13)]
 (.rd (some 15) none (.bin .add (.c (.str [112, 32, 99, 110, 102, 32])) (.t 14))
 (.rd (some 16) none (.bin .add (.t 15) (.c (.str [32])))
 (.cl false (some 20) none (.c (.fn (.func 51) [] [])) [(.t 19)]
 (.rd (some 21) none (.bin .add (.t 16) (.t 20))
 (.rd (some 22) none (.bin .add (.t 21) (.c (.str [10])))
 (.cl false (some 23) none (.c (.fn (.func 50) [] [])) [(.t 4), (.t 22)]
 .done))))))))))))
def zqj_5 : AT := (.rd (some 24) none (.faddr 1 (.t 1))
 (.rd (some 25) none (.load false 1 (.t 24))
 (.rd (some 26) none (.len 0 (.t 25))
 (.rd (some 27) none (.mov (.c (.int .i64 0)))
 .done))))
def zqj_6 : AT := (.rd (some 28) none (.bin .lss (.t 27) (.t 26))
 .done)
def zqj_7 : AT := (.rd (some 29) none (.iaddr none 1 (.t 25) (.t 27))
 (.rd (some 30) none (.load false 1 (.t 29))
 (.rd (some 6) none (.mov (.t 30))
 .done)))
def zqj_8 : AT := (.rd (some 31) none (.mov (.t 6))
 (.cl false (some 32) none (.c (.fn (.func 26) [] [])) [(.t 31)]
 (.wr false (some 33) none (.bsl false false 3 1 [(.int .i64 0)] 1 [(0, 1, (.c (.int .i64 0)))])
 (.wr false (some 34) none (.app 3 1 8 false (.t 32) (.t 33))
 (.rd (some 35) none (.len 0 (.t 34))
 (.rd (some 36) none (.mov (.c (.int .i64 0)))
 .done))))))
def zqj_9 : AT := (.rd (some 37) none (.bin .lss (.t 36) (.t 35))
 .done)
def zqj_10 : AT := (.rd (some 38) none (.iaddr none 1 (.t 34) (.t 36))
 (.rd (some 39) none (.load false 1 (.t 38))
 (.rd (some 8) none (.mov (.t 39))
 .done)))
def zqj_11 : AT := (.rd (some 40) none (.mov (.t 8))
 (.cl false (some 41) none (.c (.fn (.func 51) [] [])) [(.t 40)]
 (.cl false (some 42) none (.c (.fn (.func 50) [] [])) [(.t 4), (.t 41)]
 .done)))
def zqj_12 : AT := (.rd (some 43) none (.mov (.t 8))
 (.rd (some 44) none (.bin .neq (.t 43) (.c (.int .i64 0)))
 .done))
def zqj_13 : AT := (.cl false (some 45) none (.c (.fn (.func 52) [] [])) [(.t 4), (.c (.int .u8 32))]
 .done)
def zqj_14 : AT := (.rd (some 46) none (.bin .add (.t 36) (.c (.int .i64 1)))
 (.rd (some 36) none (.mov (.t 46))
 .done))
def zqj_15 : AT := (.cl false (some 47) none (.c (.fn (.func 52) [] [])) [(.t 4), (.c (.int .u8 10))]
 .done)
def zqj_16 : AT := (.rd (some 48) none (.bin .add (.t 27) (.c (.int .i64 1)))
 (.rd (some 27) none (.mov (.t 48))
 .done))
def zqj_17 : AT := (.cl false (some 49) none (.c (.fn (.func 53) [] [])) [(.t 4)]
 (.rd (some 2) none (.mov (.t 49))
 (.rd (some 3) none (.mov (.c (.int .i64 0)))
 .done)))
def clause_Put : AF := ⟨50, [.tmp 2, .tmp 3],
  (.seq (.reg zqj_0 [])
  (.seq (.seq (.reg zqj_1 [9, 10])
  (.cond (.t 11)
  (.seq (.reg zqj_2 [])
  .ret)
  .skip))
  (.seq (.reg zqj_3 [])
  (.seq (.reg zqj_4 [12, 13, 14, 15, 16, 17, 18, 19, 20, 21, 22, 23])
  (.seq (.seq (.reg zqj_5 [24])
  (.block 0 (.loop (.seq (.reg zqj_6 [])
  (.seq (.cond (.t 28)
  .skip
  (.exit 0))
  (.seq (.block 1 (.seq (.reg zqj_7 [29, 30])
  (.seq (.seq (.reg zqj_8 [31, 32, 33])
  (.block 2 (.loop (.seq (.reg zqj_9 [])
  (.seq (.cond (.t 37)
  .skip
  (.exit 2))
  (.seq (.block 3 (.seq (.reg zqj_10 [38, 39])
  (.seq (.reg zqj_11 [40, 41, 42])
  (.seq (.reg zqj_12 [43])
  (.cond (.t 44)
  (.reg zqj_13 [45])
  .skip)))))
  (.reg zqj_14 [46])))))))
  (.reg zqj_15 [47]))))
  (.reg zqj_16 [48])))))))
  (.seq (.reg zqj_17 [49])
  .ret))))))⟩
abbrev n_clause_Put : Nat := 22
/- proofmark/clause.some[int] -/
def zqk_0 : AT := (.rd (some 4) none (.mov (.c (.bool false)))
 .done)
def zqk_1 : AT := (.rd (some 5) none (.mov (.t 0))
 (.rd (some 6) none (.mov (.t 1))
 (.cl false (some 7) none (.c (.fn (.func 54) [] [])) [(.t 5), (.t 6)]
 (.rd (some 4) none (.mov (.t 7))
 .done))))
def clause_some_int : AF := ⟨8, [.tmp 4],
  (.seq (.reg zqk_0 [])
  (.seq (.reg zqk_1 [5, 6, 7])
  .ret))⟩
abbrev n_clause_some_int : Nat := 23
/- proofmark/clause.Units$1 -/
def zql_0 : AT := (.rd (some 3) none (.mov (.c (.bool false)))
 .done)
def zql_1 : AT := (.rd (some 4) none (.load false 1 (.t 1))
 (.rd (some 5) none (.mov (.t 0))
 (.rd (some 6) none (.look false false [.i] (.int .i64 0) (.t 4) (.t 5))
 (.rd (some 7) none (.bin .gtr (.t 6) (.c (.int .i64 0)))
 (.rd (some 3) none (.mov (.t 7))
 .done)))))
def clause_Units_S1 : AF := ⟨8, [.tmp 3],
  (.seq (.reg zql_0 [])
  (.seq (.reg zql_1 [4, 5, 6, 7])
  .ret))⟩
abbrev n_clause_Units_S1 : Nat := 24
/- slices.DeleteFunc[[]int,int] -/
def zqm_0 : AT := (.rd (some 4) none (.mov (.c (.lst 0 [] true)))
 .done)
def zqm_1 : AT := (.rd (some 8) none (.mov (.t 0))
 (.rd (some 9) none (.mov (.t 1))
 (.cl false (some 10) none (.c (.fn (.func 55) [] [])) [(.t 8), (.t 9)]
 (.rd (some 5) none (.mov (.t 10))
 .done))))
def zqm_2 : AT := (.rd (some 11) none (.mov (.t 5))
 (.rd (some 12) none (.bin .eql (.t 11) (.c (.int .i64 (-1))))
 .done))
def zqm_3 : AT := (.rd (some 13) none (.mov (.t 0))
 (.rd (some 4) none (.mov (.t 13))
 .done))
def zqm_4 : AT := (.rd (some 14) none (.mov (.t 5))
 (.rd (some 15) none (.bin .add (.t 14) (.c (.int .i64 1)))
 (.rd (some 6) none (.mov (.t 15))
 .done)))
def zqm_5 : AT := (.rd (some 16) none (.mov (.t 6))
 (.rd (some 17) none (.mov (.t 0))
 (.rd (some 18) none (.len 0 (.t 17))
 (.rd (some 19) none (.bin .lss (.t 16) (.t 18))
 .done))))
def zqm_6 : AT := (.rd (some 22) none (.mov (.t 0))
 (.rd (some 23) none (.mov (.t 6))
 (.rd (some 24) none (.iaddr none 1 (.t 22) (.t 23))
 (.rd (some 25) none (.load false 1 (.t 24))
 (.rd (some 7) none (.mov (.t 25))
 .done)))))
def zqm_7 : AT := (.rd (some 26) none (.mov (.t 1))
 (.rd (some 27) none (.mov (.t 7))
 (.cl false (some 28) none (.t 26) [(.t 27)]
 (.rd (some 29) none (.un .not (.t 28))
 .done))))
def zqm_8 : AT := (.rd (some 30) none (.mov (.t 0))
 (.rd (some 31) none (.mov (.t 5))
 (.rd (some 32) none (.mov (.t 7))
 (.rd (some 33) none (.iaddr none 1 (.t 30) (.t 31))
 (.wr false none none (.store 1 (.t 33) (.t 32))
 .done)))))
def zqm_9 : AT := (.rd (some 34) none (.mov (.t 5))
 (.rd (some 35) none (.bin .add (.t 34) (.c (.int .i64 1)))
 (.rd (some 5) none (.mov (.t 35))
 .done)))
def zqm_10 : AT := (.rd (some 20) none (.mov (.t 6))
 (.rd (some 21) none (.bin .add (.t 20) (.c (.int .i64 1)))
 (.rd (some 6) none (.mov (.t 21))
 .done)))
def zqm_11 : AT := (.rd (some 36) none (.mov (.t 0))
 (.rd (some 37) none (.mov (.t 5))
 (.rd (some 38) none (.slc 1 (.t 36) (some (.t 37)) none none)
 (.wr false none none (.clr 1 [(.int .i64 0)] (.t 38))
 .done))))
def zqm_12 : AT := (.rd (some 39) none (.mov (.t 0))
 (.rd (some 40) none (.mov (.t 5))
 (.rd (some 41) none (.slc 1 (.t 39) none (some (.t 40)) none)
 (.rd (some 4) none (.mov (.t 41))
 .done))))
def slices_DeleteFunc_int_int : AF := ⟨42, [.tmp 4],
  (.seq (.reg zqm_0 [])
  (.seq (.reg zqm_1 [8, 9, 10])
  (.seq (.seq (.reg zqm_2 [11])
  (.cond (.t 12)
  (.seq (.reg zqm_3 [13])
  .ret)
  .skip))
  (.seq (.seq (.reg zqm_4 [14, 15])
  (.block 0 (.loop (.seq (.seq (.reg zqm_5 [16, 17, 18])
  (.cond (.t 19)
  .skip
  (.exit 0)))
  (.seq (.block 1 (.seq (.reg zqm_6 [22, 23, 24, 25])
  (.seq (.reg zqm_7 [26, 27, 28])
  (.cond (.t 29)
  (.seq (.reg zqm_8 [30, 31, 32, 33])
  (.reg zqm_9 [34, 35]))
  .skip))))
  (.reg zqm_10 [20, 21]))))))
  (.seq (.reg zqm_11 [36, 37, 38])
  (.seq (.reg zqm_12 [39, 40, 41])
  .ret))))))⟩
abbrev n_slices_DeleteFunc_int_int : Nat := 25
/- slices.Clone[[]int,int] -/
def zqn_0 : AT := (.rd (some 2) none (.mov (.c (.lst 0 [] true)))
 .done)
def zqn_1 : AT := (.rd (some 3) none (.mov (.t 0))
 (.rd (some 4) none (.eqn false (.t 3))
 .done))
def zqn_2 : AT := (.rd (some 2) none (.mov (.c (.lst 0 [] true)))
 .done)
def zqn_3 : AT := (.wr false (some 5) none (.bsl false false 3 1 [(.int .i64 0)] 0 [])
 (.rd (some 6) none (.mov (.t 0))
 (.wr false (some 7) none (.app 3 1 8 false (.t 5) (.t 6))
 (.rd (some 2) none (.mov (.t 7))
 .done))))
def slices_Clone_int_int : AF := ⟨8, [.tmp 2],
  (.seq (.reg zqn_0 [])
  (.seq (.seq (.reg zqn_1 [3])
  (.cond (.t 4)
  (.seq (.reg zqn_2 [])
  .ret)
  .skip))
  (.seq (.reg zqn_3 [5, 6, 7])
  .ret)))⟩
abbrev n_slices_Clone_int_int : Nat := 26
/- proofmark/clause.Units$2 -/
def zqo_0 : AT := (.rd (some 3) none (.mov (.c (.bool false)))
 .done)
def zqo_1 : AT := (.rd (some 4) none (.load false 1 (.t 1))
 (.rd (some 5) none (.mov (.t 0))
 (.rd (some 6) none (.un .neg (.t 5))
 (.rd (some 7) none (.look false false [.i] (.int .i64 0) (.t 4) (.t 6))
 (.rd (some 8) none (.bin .gtr (.t 7) (.c (.int .i64 0)))
 (.rd (some 3) none (.mov (.t 8))
 .done))))))
def clause_Units_S2 : AF := ⟨9, [.tmp 3],
  (.seq (.reg zqo_0 [])
  (.seq (.reg zqo_1 [4, 5, 6, 7, 8])
  .ret))⟩
abbrev n_clause_Units_S2 : Nat := 27
/- proofmark/clause.all[int] -/
def zqp_0 : AT := (.wr false (some 3) none (.box 55 (.t 1))
 (.rd (some 4) none (.mov (.c (.bool false)))
 .done))
def zqp_1 : AT := (.rd (some 5) none (.mov (.t 0))
 (.rd (some 6) none (.mkfn (.func 56) [] [(.t 3)])
 (.cl false (some 7) none (.c (.fn (.func 54) [] [])) [(.t 5), (.t 6)]
 (.rd (some 8) none (.un .not (.t 7))
 (.rd (some 4) none (.mov (.t 8))
 .done)))))
def clause_all_int : AF := ⟨9, [.tmp 4],
  (.seq (.reg zqp_0 [])
  (.seq (.reg zqp_1 [5, 6, 7, 8])
  .ret))⟩
abbrev n_clause_all_int : Nat := 28
/- proofmark/clause.Units$3 -/
def zqq_0 : AT := (.rd (some 3) none (.mov (.c (.bool false)))
 .done)
def zqq_1 : AT := (.rd (some 4) none (.mov (.t 0))
 (.rd (some 5) none (.load false 1 (.t 1))
 (.rd (some 6) none (.iaddr none 1 (.t 5) (.c (.int .i64 0)))
 (.rd (some 7) none (.load false 1 (.t 6))
 (.rd (some 8) none (.bin .eql (.t 4) (.t 7))
 (.rd (some 3) none (.mov (.t 8))
 .done))))))
def clause_Units_S3 : AF := ⟨9, [.tmp 3],
  (.seq (.reg zqq_0 [])
  (.seq (.reg zqq_1 [4, 5, 6, 7, 8])
  .ret))⟩
abbrev n_clause_Units_S3 : Nat := 29
/- slices.SortFunc[[]int,int] -/
def zqr_0 : AT := (.rd (some 5) none (.mov (.t 0))
 (.rd (some 6) none (.len 0 (.t 5))
 (.rd (some 4) none (.mov (.t 6))
 .done)))
def zqr_1 : AT := (.rd (some 7) none (.mov (.t 0))
 (.rd (some 8) none (.mov (.t 4))
 (.rd (some 9) none (.mov (.t 4))
 (.rd (some 10) none (.conv .u64 (.t 9))
 (.cl false (some 11) none (.c (.fn (.func 58) [] [])) [(.t 10)]
 (.rd (some 12) none (.mov (.t 1))
 (.cl false (some 13) none (.c (.fn (.func 57) [] [])) [(.t 7), (.c (.int .i64 0)), (.t 8), (.t 11), (.t 12)]
 .done)))))))
def slices_SortFunc_int_int : AF := ⟨14, [],
  (.seq (.reg zqr_0 [5, 6])
  (.reg zqr_1 [7, 8, 9, 10, 11, 12, 13]))⟩
abbrev n_slices_SortFunc_int_int : Nat := 30
abbrev n_clause_Units_S4 : Nat := 31
abbrev n_cmp_Compare_int : Nat := 32
/- proofmark/clause.abs -/
def zqu_0 : AT := (.rd (some 2) none (.mov (.c (.int .i64 0)))
 .done)
def zqu_1 : AT := (.rd (some 3) none (.mov (.t 0))
 (.rd (some 4) none (.mov (.t 0))
 (.rd (some 5) none (.un .neg (.t 4))
 (.rd (some 6) none (.maxi (.t 3) (.t 5))
 (.rd (some 2) none (.mov (.t 6))
 .done)))))
def clause_abs : AF := ⟨7, [.tmp 2],
  (.seq (.reg zqu_0 [])
  (.seq (.reg zqu_1 [3, 4, 5, 6])
  .ret))⟩
abbrev n_clause_abs : Nat := 33
/- proofmark/clause.all[[]int] -/
def zqv_0 : AT := (.wr false (some 3) none (.box 61 (.t 1))
 (.rd (some 4) none (.mov (.c (.bool false)))
 .done))
def zqv_1 : AT := (.rd (some 5) none (.mov (.t 0))
 (.rd (some 6) none (.mkfn (.func 61) [] [(.t 3)])
 (.cl false (some 7) none (.c (.fn (.func 60) [] [])) [(.t 5), (.t 6)]
 (.rd (some 8) none (.un .not (.t 7))
 (.rd (some 4) none (.mov (.t 8))
 .done)))))
def clause_all_int_34 : AF := ⟨9, [.tmp 4],
  (.seq (.reg zqv_0 [])
  (.seq (.reg zqv_1 [5, 6, 7, 8])
  .ret))⟩
abbrev n_clause_all_int_34 : Nat := 34
/- proofmark/clause.Holds$1 -/
def zqw_0 : AT := (.rd (some 3) none (.mov (.c (.bool false)))
 .done)
def zqw_1 : AT := (.rd (some 4) none (.mov (.t 0))
 (.rd (some 5) none (.mkfn (.func 36) [] [(.t 1)])
 (.cl false (some 6) none (.c (.fn (.func 23) [] [])) [(.t 4), (.t 5)]
 (.rd (some 3) none (.mov (.t 6))
 .done))))
def clause_Holds_S1 : AF := ⟨7, [.tmp 3],
  (.seq (.reg zqw_0 [])
  (.seq (.reg zqw_1 [4, 5, 6])
  .ret))⟩
abbrev n_clause_Holds_S1 : Nat := 35
/- proofmark/clause.Holds$1$1 -/
def zqx_0 : AT := (.rd (some 3) none (.mov (.c (.bool false)))
 .done)
def zqx_1 : AT := (.rd (some 4) none (.load false 1 (.t 1))
 (.rd (some 5) none (.mov (.t 0))
 (.rd (some 10) none (.mov (.t 0))
 (.rd (some 11) none (.bin .gtr (.t 10) (.c (.int .i64 0)))
 (.cl true (some 6) none (.c (.fn (.func 33) [] [])) [(.t 5)]
 (.rd (some 7) none (.bin .sub (.t 6) (.c (.int .i64 1)))
 (.rd (some 8) none (.iaddr none 1 (.t 4) (.t 7))
 (.rd (some 9) none (.load false 1 (.t 8))
 (.rd (some 12) none (.eqb false (.t 9) (.t 11))
 (.rd (some 3) none (.mov (.t 12))
 .done))))))))))
def clause_Holds_S1_S1 : AF := ⟨13, [.tmp 3],
  (.seq (.reg zqx_0 [])
  (.seq (.reg zqx_1 [4, 5, 6, 7, 8, 9, 10, 11, 12])
  .ret))⟩
abbrev n_clause_Holds_S1_S1 : Nat := 36
/- proofmark/clause.Assign$1 -/
def zqy_0 : AT := (.rd (some 3) none (.mov (.c (.bool false)))
 .done)
def zqy_1 : AT := (.rd (some 4) none (.load false 1 (.t 1))
 (.rd (some 5) none (.mov (.t 0))
 (.rd (some 6) none (.un .neg (.t 5))
 (.rd (some 7) none (.look false false [.i] (.int .i64 0) (.t 4) (.t 6))
 (.rd (some 8) none (.bin .gtr (.t 7) (.c (.int .i64 0)))
 (.rd (some 3) none (.mov (.t 8))
 .done))))))
def clause_Assign_S1 : AF := ⟨9, [.tmp 3],
  (.seq (.reg zqy_0 [])
  (.seq (.reg zqy_1 [4, 5, 6, 7, 8])
  .ret))⟩
abbrev n_clause_Assign_S1 : Nat := 37
/- proofmark/clause.Assign$2 -/
def zqz_0 : AT := (.rd (some 3) none (.mov (.c (.bool false)))
 .done)
def zqz_1 : AT := (.rd (some 4) none (.load false 1 (.t 1))
 (.rd (some 5) none (.mov (.t 0))
 (.rd (some 6) none (.look false false [.i] (.int .i64 0) (.t 4) (.t 5))
 (.rd (some 7) none (.bin .gtr (.t 6) (.c (.int .i64 0)))
 (.rd (some 3) none (.mov (.t 7))
 .done)))))
def clause_Assign_S2 : AF := ⟨8, [.tmp 3],
  (.seq (.reg zqz_0 [])
  (.seq (.reg zqz_1 [4, 5, 6, 7])
  .ret))⟩
abbrev n_clause_Assign_S2 : Nat := 38
/- proofmark/clause.Assign$3 -/
def zq10_0 : AT := (.rd (some 3) none (.mov (.c (.bool false)))
 .done)
def zq10_1 : AT := (.rd (some 4) none (.load false 1 (.t 1))
 (.rd (some 5) none (.mov (.t 0))
 (.rd (some 6) none (.un .neg (.t 5))
 (.rd (some 7) none (.look false false [.i] (.int .i64 0) (.t 4) (.t 6))
 (.rd (some 8) none (.bin .gtr (.t 7) (.c (.int .i64 0)))
 (.rd (some 3) none (.mov (.t 8))
 .done))))))
def clause_Assign_S3 : AF := ⟨9, [.tmp 3],
  (.seq (.reg zq10_0 [])
  (.seq (.reg zq10_1 [4, 5, 6, 7, 8])
  .ret))⟩
abbrev n_clause_Assign_S3 : Nat := 39
abbrev n_proofmarkref05_Right : Nat := 40
abbrev n_proofmarkref05_lit : Nat := 41
abbrev n_proofmarkref05_has : Nat := 42
abbrev n_proofmarkref05_before : Nat := 43
/- slices.Contains[[]int,int] -/
def zq15_0 : AT := (.rd (some 4) none (.mov (.c (.bool false)))
 .done)
def zq15_1 : AT := (.rd (some 5) none (.mov (.t 0))
 (.rd (some 6) none (.mov (.t 1))
 (.cl false (some 7) none (.c (.fn (.func 62) [] [])) [(.t 5), (.t 6)]
 (.rd (some 8) none (.bin .geq (.t 7) (.c (.int .i64 0)))
 (.rd (some 4) none (.mov (.t 8))
 .done)))))
def slices_Contains_int_int : AF := ⟨9, [.tmp 4],
  (.seq (.reg zq15_0 [])
  (.seq (.reg zq15_1 [5, 6, 7, 8])
  .ret))⟩
abbrev n_slices_Contains_int_int : Nat := 44
/- slices.Concat[[]int,int] -/
def zq16_0 : AT := (.rd (some 2) none (.mov (.c (.lst 0 [] true)))
 .done)
def zq16_1 : AT := (.rd (some 3) none (.mov (.c (.int .i64 0)))
 .done)
def zq16_2 : AT := (.rd (some 9) none (.mov (.t 0))
 (.rd (some 10) none (.len 0 (.t 9))
 (.rd (some 11) none (.mov (.c (.int .i64 0)))
 .done)))
def zq16_3 : AT := (.rd (some 12) none (.bin .lss (.t 11) (.t 10))
 .done)
def zq16_4 : AT := (.rd (some 13) none (.iaddr none 1 (.t 9) (.t 11))
 (.rd (some 14) none (.load false 1 (.t 13))
 (.rd (some 5) none (.mov (.t 14))
 .done)))
def zq16_5 : AT := (.rd (some 15) none (.mov (.t 3))
 (.rd (some 16) none (.mov (.t 5))
 (.rd (some 17) none (.len 0 (.t 16))
 (.rd (some 18) none (.bin .add (.t 15) (.t 17))
 (.rd (some 3) none (.mov (.t 18))
 .done)))))
def zq16_6 : AT := (.rd (some 19) none (.mov (.t 3))
 (.rd (some 20) none (.bin .lss (.t 19) (.c (.int .i64 0)))
 .done))
def zq16_7 : AT := (.bad false (some 21) none
 (.bad false none none
 .done))
def zq16_8 : AT := (.rd (some 22) none (.bin .add (.t 11) (.c (.int .i64 1)))
 (.rd (some 11) none (.mov (.t 22))
 .done))
def zq16_9 : AT := (.rd (some 23) none (.mov (.t 3))
 (.cl false (some 24) none (.c (.fn (.func 63) [] [])) [(.c (.lst 0 [] true)), (.t 23)]
 (.rd (some 6) none (.mov (.t 24))
 .done)))
def zq16_10 : AT := (.rd (some 25) none (.mov (.t 0))
 (.rd (some 26) none (.len 0 (.t 25))
 (.rd (some 27) none (.mov (.c (.int .i64 0)))
 .done)))
def zq16_11 : AT := (.rd (some 28) none (.bin .lss (.t 27) (.t 26))
 .done)
def zq16_12 : AT := (.rd (some 29) none (.iaddr none 1 (.t 25) (.t 27))
 (.rd (some 30) none (.load false 1 (.t 29))
 (.rd (some 8) none (.mov (.t 30))
 .done)))
def zq16_13 : AT := (.rd (some 31) none (.mov (.t 6))
 (.rd (some 32) none (.mov (.t 8))
 (.wr false (some 33) none (.app 3 1 8 false (.t 31) (.t 32))
 (.rd (some 6) none (.mov (.t 33))
 .done))))
def zq16_14 : AT := (.rd (some 34) none (.bin .add (.t 27) (.c (.int .i64 1)))
 (.rd (some 27) none (.mov (.t 34))
 .done))
def zq16_15 : AT := (.rd (some 35) none (.mov (.t 6))
 (.rd (some 2) none (.mov (.t 35))
 .done))
def slices_Concat_int_int : AF := ⟨36, [.tmp 2],
  (.seq (.reg zq16_0 [])
  (.seq (.reg zq16_1 [])
  (.seq (.seq (.reg zq16_2 [])
  (.block 0 (.loop (.seq (.reg zq16_3 [])
  (.seq (.cond (.t 12)
  .skip
  (.exit 0))
  (.seq (.block 1 (.seq (.reg zq16_4 [13, 14])
  (.seq (.reg zq16_5 [15, 16, 17, 18])
  (.seq (.reg zq16_6 [19])
  (.cond (.t 20)
  (.reg zq16_7 [21])
  .skip)))))
  (.reg zq16_8 [22])))))))
  (.seq (.reg zq16_9 [23, 24])
  (.seq (.seq (.reg zq16_10 [])
  (.block 2 (.loop (.seq (.reg zq16_11 [])
  (.seq (.cond (.t 28)
  .skip
  (.exit 2))
  (.seq (.block 3 (.seq (.reg zq16_12 [29, 30])
  (.reg zq16_13 [31, 32, 33])))
  (.reg zq16_14 [34])))))))
  (.seq (.reg zq16_15 [35])
  .ret))))))⟩
abbrev n_slices_Concat_int_int : Nat := 45
/- proofmark/clause.Resolve$1 -/
def zq17_0 : AT := (.rd (some 3) none (.mov (.c (.bool false)))
 .done)
def zq17_1 : AT := (.rd (some 4) none (.mov (.t 0))
 (.rd (some 5) none (.load false 1 (.t 1))
 (.rd (some 6) none (.bin .eql (.t 4) (.t 5))
 (.rd (some 7) none (.mov (.t 6))
 (.rd (some 8) (some (7, false)) (.mov (.t 0))
 (.rd (some 9) (some (7, false)) (.load false 1 (.t 1))
 (.rd (some 10) (some (7, false)) (.un .neg (.t 9))
 (.rd (some 11) (some (7, false)) (.bin .eql (.t 8) (.t 10))
 (.rd (some 12) none (.pick (.t 7) (.c (.bool true)) (.t 11))
 (.rd (some 3) none (.mov (.t 12))
 .done))))))))))
def clause_Resolve_S1 : AF := ⟨13, [.tmp 3],
  (.seq (.reg zq17_0 [])
  (.seq (.reg zq17_1 [4, 5, 6, 7, 8, 9, 10, 11, 12])
  .ret))⟩
abbrev n_clause_Resolve_S1 : Nat := 46
abbrev n_clause_Clean_S1 : Nat := 47
abbrev n_cmp_Or_int : Nat := 48
/- slices.Compact[[]int,int] -/
def zq1a_0 : AT := (.rd (some 2) none (.mov (.c (.lst 0 [] true)))
 .done)
def zq1a_1 : AT := (.rd (some 6) none (.mov (.t 0))
 (.rd (some 7) none (.len 0 (.t 6))
 (.rd (some 8) none (.bin .lss (.t 7) (.c (.int .i64 2)))
 .done)))
def zq1a_2 : AT := (.rd (some 9) none (.mov (.t 0))
 (.rd (some 2) none (.mov (.t 9))
 .done))
def zq1a_3 : AT := (.rd (some 3) none (.mov (.c (.int .i64 1)))
 .done)
def zq1a_4 : AT := (.rd (some 10) none (.mov (.t 3))
 (.rd (some 11) none (.mov (.t 0))
 (.rd (some 12) none (.len 0 (.t 11))
 (.rd (some 13) none (.bin .lss (.t 10) (.t 12))
 .done))))
def zq1a_5 : AT := (.rd (some 16) none (.mov (.t 0))
 (.rd (some 17) none (.mov (.t 3))
 (.rd (some 18) none (.iaddr none 1 (.t 16) (.t 17))
 (.rd (some 19) none (.load false 1 (.t 18))
 (.rd (some 20) none (.mov (.t 0))
 (.rd (some 21) none (.mov (.t 3))
 (.rd (some 22) none (.bin .sub (.t 21) (.c (.int .i64 1)))
 (.rd (some 23) none (.iaddr none 1 (.t 20) (.t 22))
 (.rd (some 24) none (.load false 1 (.t 23))
 (.rd (some 25) none (.bin .eql (.t 19) (.t 24))
 .done))))))))))
def zq1a_6 : AT := (.rd (some 26) none (.mov (.t 0))
 (.rd (some 27) none (.mov (.t 3))
 (.rd (some 28) none (.slc 1 (.t 26) (some (.t 27)) none none)
 (.rd (some 4) none (.mov (.t 28))
 .done))))
def zq1a_7 : AT := (.rd (some 5) none (.mov (.c (.int .i64 1)))
 .done)
def zq1a_8 : AT := (.rd (some 29) none (.mov (.t 5))
 (.rd (some 30) none (.mov (.t 4))
 (.rd (some 31) none (.len 0 (.t 30))
 (.rd (some 32) none (.bin .lss (.t 29) (.t 31))
 .done))))
def zq1a_9 : AT := (.rd (some 35) none (.mov (.t 4))
 (.rd (some 36) none (.mov (.t 5))
 (.rd (some 37) none (.iaddr none 1 (.t 35) (.t 36))
 (.rd (some 38) none (.load false 1 (.t 37))
 (.rd (some 39) none (.mov (.t 4))
 (.rd (some 40) none (.mov (.t 5))
 (.rd (some 41) none (.bin .sub (.t 40) (.c (.int .i64 1)))
 (.rd (some 42) none (.iaddr none 1 (.t 39) (.t 41))
 (.rd (some 43) none (.load false 1 (.t 42))
 (.rd (some 44) none (.bin .neq (.t 38) (.t 43))
 .done))))))))))
def zq1a_10 : AT := (.rd (some 45) none (.mov (.t 0))
 (.rd (some 46) none (.mov (.t 3))
 (.rd (some 47) none (.mov (.t 4))
 (.rd (some 48) none (.mov (.t 5))
 (.rd (some 49) none (.iaddr none 1 (.t 47) (.t 48))
 (.rd (some 50) none (.load false 1 (.t 49))
 (.rd (some 51) none (.iaddr none 1 (.t 45) (.t 46))
 (.wr false none none (.store 1 (.t 51) (.t 50))
 .done))))))))
def zq1a_11 : AT := (.rd (some 52) none (.mov (.t 3))
 (.rd (some 53) none (.bin .add (.t 52) (.c (.int .i64 1)))
 (.rd (some 3) none (.mov (.t 53))
 .done)))
def zq1a_12 : AT := (.rd (some 33) none (.mov (.t 5))
 (.rd (some 34) none (.bin .add (.t 33) (.c (.int .i64 1)))
 (.rd (some 5) none (.mov (.t 34))
 .done)))
def zq1a_13 : AT := (.rd (some 54) none (.mov (.t 0))
 (.rd (some 55) none (.mov (.t 3))
 (.rd (some 56) none (.slc 1 (.t 54) (some (.t 55)) none none)
 (.wr false none none (.clr 1 [(.int .i64 0)] (.t 56))
 .done))))
def zq1a_14 : AT := (.rd (some 57) none (.mov (.t 0))
 (.rd (some 58) none (.mov (.t 3))
 (.rd (some 59) none (.slc 1 (.t 57) none (some (.t 58)) none)
 (.rd (some 2) none (.mov (.t 59))
 .done))))
def zq1a_15 : AT := (.rd (some 14) none (.mov (.t 3))
 (.rd (some 15) none (.bin .add (.t 14) (.c (.int .i64 1)))
 (.rd (some 3) none (.mov (.t 15))
 .done)))
def zq1a_16 : AT := (.rd (some 60) none (.mov (.t 0))
 (.rd (some 2) none (.mov (.t 60))
 .done))
def slices_Compact_int_int : AF := ⟨61, [.tmp 2],
  (.seq (.reg zq1a_0 [])
  (.seq (.seq (.reg zq1a_1 [6, 7])
  (.cond (.t 8)
  (.seq (.reg zq1a_2 [9])
  .ret)
  .skip))
  (.seq (.seq (.reg zq1a_3 [])
  (.block 0 (.loop (.seq (.seq (.reg zq1a_4 [10, 11, 12])
  (.cond (.t 13)
  .skip
  (.exit 0)))
  (.seq (.block 1 (.seq (.reg zq1a_5 [16, 17, 18, 19, 20, 21, 22, 23, 24])
  (.cond (.t 25)
  (.seq (.reg zq1a_6 [26, 27, 28])
  (.seq (.seq (.reg zq1a_7 [])
  (.block 2 (.loop (.seq (.seq (.reg zq1a_8 [29, 30, 31])
  (.cond (.t 32)
  .skip
  (.exit 2)))
  (.seq (.block 3 (.seq (.reg zq1a_9 [35, 36, 37, 38, 39, 40, 41, 42, 43])
  (.cond (.t 44)
  (.seq (.reg zq1a_10 [45, 46, 47, 48, 49, 50, 51])
  (.reg zq1a_11 [52, 53]))
  .skip)))
  (.reg zq1a_12 [33, 34]))))))
  (.seq (.reg zq1a_13 [54, 55, 56])
  (.seq (.reg zq1a_14 [57, 58, 59])
  .ret))))
  .skip)))
  (.reg zq1a_15 [14, 15]))))))
  (.seq (.reg zq1a_16 [60])
  .ret))))⟩
abbrev n_slices_Compact_int_int : Nat := 49
abbrev n_bytes_Buffer_WriteString : Nat := 50
abbrev n_strconv_Itoa : Nat := 51
abbrev n_bytes_Buffer_WriteByte : Nat := 52
abbrev n_bytes_Buffer_Bytes : Nat := 53
/- slices.ContainsFunc[[]int,int] -/
def zq1f_0 : AT := (.rd (some 4) none (.mov (.c (.bool false)))
 .done)
def zq1f_1 : AT := (.rd (some 5) none (.mov (.t 0))
 (.rd (some 6) none (.mov (.t 1))
 (.cl false (some 7) none (.c (.fn (.func 55) [] [])) [(.t 5), (.t 6)]
 (.rd (some 8) none (.bin .geq (.t 7) (.c (.int .i64 0)))
 (.rd (some 4) none (.mov (.t 8))
 .done)))))
def slices_ContainsFunc_int_int : AF := ⟨9, [.tmp 4],
  (.seq (.reg zq1f_0 [])
  (.seq (.reg zq1f_1 [5, 6, 7, 8])
  .ret))⟩
abbrev n_slices_ContainsFunc_int_int : Nat := 54
/- slices.IndexFunc[[]int,int] -/
def zq1g_0 : AT := (.rd (some 4) none (.mov (.c (.int .i64 0)))
 .done)
def zq1g_1 : AT := (.rd (some 6) none (.mov (.t 0))
 (.rd (some 7) none (.len 0 (.t 6))
 (.rd (some 8) none (.mov (.c (.int .i64 0)))
 .done)))
def zq1g_2 : AT := (.rd (some 9) none (.bin .lss (.t 8) (.t 7))
 .done)
def zq1g_3 : AT := (.rd (some 10) none (.mov (.t 8))
 (.rd (some 5) none (.mov (.t 10))
 .done))
def zq1g_4 : AT := (.rd (some 11) none (.mov (.t 1))
 (.rd (some 12) none (.mov (.t 0))
 (.rd (some 13) none (.mov (.t 5))
 (.rd (some 14) none (.iaddr none 1 (.t 12) (.t 13))
 (.rd (some 15) none (.load false 1 (.t 14))
 (.cl false (some 16) none (.t 11) [(.t 15)]
 .done))))))
def zq1g_5 : AT := (.rd (some 17) none (.mov (.t 5))
 (.rd (some 4) none (.mov (.t 17))
 .done))
def zq1g_6 : AT := (.rd (some 18) none (.bin .add (.t 8) (.c (.int .i64 1)))
 (.rd (some 8) none (.mov (.t 18))
 .done))
def zq1g_7 : AT := (.rd (some 4) none (.mov (.c (.int .i64 (-1))))
 .done)
def slices_IndexFunc_int_int : AF := ⟨19, [.tmp 4],
  (.seq (.reg zq1g_0 [])
  (.seq (.seq (.reg zq1g_1 [6])
  (.block 0 (.loop (.seq (.reg zq1g_2 [])
  (.seq (.cond (.t 9)
  .skip
  (.exit 0))
  (.seq (.block 1 (.seq (.reg zq1g_3 [10])
  (.seq (.reg zq1g_4 [11, 12, 13, 14, 15])
  (.cond (.t 16)
  (.seq (.reg zq1g_5 [17])
  .ret)
  .skip))))
  (.reg zq1g_6 [18])))))))
  (.seq (.reg zq1g_7 [])
  .ret)))⟩
abbrev n_slices_IndexFunc_int_int : Nat := 55
/- proofmark/clause.all[int]$1 -/
def zq1h_0 : AT := (.rd (some 3) none (.mov (.c (.bool false)))
 .done)
def zq1h_1 : AT := (.rd (some 4) none (.load false 1 (.t 1))
 (.rd (some 5) none (.mov (.t 0))
 (.cl false (some 6) none (.t 4) [(.t 5)]
 (.rd (some 7) none (.un .not (.t 6))
 (.rd (some 3) none (.mov (.t 7))
 .done)))))
def clause_all_int__S1 : AF := ⟨8, [.tmp 3],
  (.seq (.reg zq1h_0 [])
  (.seq (.reg zq1h_1 [4, 5, 6, 7])
  .ret))⟩
abbrev n_clause_all_int__S1 : Nat := 56
abbrev n_slices_pdqsortCmpFunc_int : Nat := 57
abbrev n_math_bits_Len : Nat := 58
abbrev n_cmp_isNaN_int : Nat := 59
/- slices.ContainsFunc[[][]int,[]int] -/
def zq1l_0 : AT := (.rd (some 4) none (.mov (.c (.bool false)))
 .done)
def zq1l_1 : AT := (.rd (some 5) none (.mov (.t 0))
 (.rd (some 6) none (.mov (.t 1))
 (.cl false (some 7) none (.c (.fn (.func 77) [] [])) [(.t 5), (.t 6)]
 (.rd (some 8) none (.bin .geq (.t 7) (.c (.int .i64 0)))
 (.rd (some 4) none (.mov (.t 8))
 .done)))))
def slices_ContainsFunc_int_int_60 : AF := ⟨9, [.tmp 4],
  (.seq (.reg zq1l_0 [])
  (.seq (.reg zq1l_1 [5, 6, 7, 8])
  .ret))⟩
abbrev n_slices_ContainsFunc_int_int_60 : Nat := 60
/- proofmark/clause.all[[]int]$1 -/
def zq1m_0 : AT := (.rd (some 3) none (.mov (.c (.bool false)))
 .done)
def zq1m_1 : AT := (.rd (some 4) none (.load false 1 (.t 1))
 (.rd (some 5) none (.mov (.t 0))
 (.cl false (some 6) none (.t 4) [(.t 5)]
 (.rd (some 7) none (.un .not (.t 6))
 (.rd (some 3) none (.mov (.t 7))
 .done)))))
def clause_all_int__S1_61 : AF := ⟨8, [.tmp 3],
  (.seq (.reg zq1m_0 [])
  (.seq (.reg zq1m_1 [4, 5, 6, 7])
  .ret))⟩
abbrev n_clause_all_int__S1_61 : Nat := 61
/- slices.Index[[]int,int] -/
def zq1n_0 : AT := (.rd (some 4) none (.mov (.c (.int .i64 0)))
 .done)
def zq1n_1 : AT := (.rd (some 6) none (.mov (.t 0))
 (.rd (some 7) none (.len 0 (.t 6))
 (.rd (some 8) none (.mov (.c (.int .i64 0)))
 .done)))
def zq1n_2 : AT := (.rd (some 9) none (.bin .lss (.t 8) (.t 7))
 .done)
def zq1n_3 : AT := (.rd (some 10) none (.mov (.t 8))
 (.rd (some 5) none (.mov (.t 10))
 .done))
def zq1n_4 : AT := (.rd (some 11) none (.mov (.t 1))
 (.rd (some 12) none (.mov (.t 0))
 (.rd (some 13) none (.mov (.t 5))
 (.rd (some 14) none (.iaddr none 1 (.t 12) (.t 13))
 (.rd (some 15) none (.load false 1 (.t 14))
 (.rd (some 16) none (.bin .eql (.t 11) (.t 15))
 .done))))))
def zq1n_5 : AT := (.rd (some 17) none (.mov (.t 5))
 (.rd (some 4) none (.mov (.t 17))
 .done))
def zq1n_6 : AT := (.rd (some 18) none (.bin .add (.t 8) (.c (.int .i64 1)))
 (.rd (some 8) none (.mov (.t 18))
 .done))
def zq1n_7 : AT := (.rd (some 4) none (.mov (.c (.int .i64 (-1))))
 .done)
def slices_Index_int_int : AF := ⟨19, [.tmp 4],
  (.seq (.reg zq1n_0 [])
  (.seq (.seq (.reg zq1n_1 [6])
  (.block 0 (.loop (.seq (.reg zq1n_2 [])
  (.seq (.cond (.t 9)
  .skip
  (.exit 0))
  (.seq (.block 1 (.seq (.reg zq1n_3 [10])
  (.seq (.reg zq1n_4 [11, 12, 13, 14, 15])
  (.cond (.t 16)
  (.seq (.reg zq1n_5 [17])
  .ret)
  .skip))))
  (.reg zq1n_6 [18])))))))
  (.seq (.reg zq1n_7 [])
  .ret)))⟩
abbrev n_slices_Index_int_int : Nat := 62
/- slices.Grow[[]int,int] -/
def zq1o_0 : AT := (.rd (some 4) none (.mov (.c (.lst 0 [] true)))
 .done)
def zq1o_1 : AT := (.rd (some 5) none (.mov (.t 1))
 (.rd (some 6) none (.bin .lss (.t 5) (.c (.int .i64 0)))
 .done))
def zq1o_2 : AT := (.bad false (some 7) none
 (.bad false none none
 .done))
def zq1o_3 : AT := (.rd (some 8) none (.mov (.t 1))
 (.rd (some 9) none (.mov (.t 0))
 (.bad false (some 10) none
 (.rd (some 11) none (.mov (.t 0))
 (.rd (some 12) none (.len 0 (.t 11))
 (.rd (some 13) none (.bin .sub (.t 10) (.t 12))
 (.rd (some 14) none (.bin .sub (.t 8) (.t 13))
 (.rd (some 1) none (.mov (.t 14))
 .done))))))))
def zq1o_4 : AT := (.rd (some 15) none (.mov (.t 1))
 (.rd (some 16) none (.bin .gtr (.t 15) (.c (.int .i64 0)))
 .done))
def zq1o_5 : AT := (.rd (some 17) none (.mov (.t 0))
 (.rd (some 18) none (.mov (.t 0))
 (.bad false (some 19) none
 (.rd (some 20) none (.slc 1 (.t 17) none (some (.t 19)) none)
 (.rd (some 21) none (.mov (.t 1))
 (.bad false (some 22) none
 (.rd (some 23) none (.mov (.t 0))
 (.rd (some 24) none (.len 0 (.t 23))
 (.rd (some 25) none (.slc 1 (.t 22) none (some (.t 24)) none)
 (.rd (some 0) none (.mov (.t 25))
 .done))))))))))
def zq1o_6 : AT := (.rd (some 26) none (.mov (.t 0))
 (.rd (some 4) none (.mov (.t 26))
 .done))
def slices_Grow_int_int : AF := ⟨27, [.tmp 4],
  (.seq (.reg zq1o_0 [])
  (.seq (.seq (.reg zq1o_1 [5])
  (.cond (.t 6)
  (.reg zq1o_2 [7])
  .skip))
  (.seq (.seq (.reg zq1o_3 [8, 9, 10, 11, 12, 13, 14])
  (.seq (.reg zq1o_4 [15])
  (.cond (.t 16)
  (.reg zq1o_5 [17, 18, 19, 20, 21, 22, 23, 24, 25])
  .skip)))
  (.seq (.reg zq1o_6 [26])
  .ret))))⟩
abbrev n_slices_Grow_int_int : Nat := 63
abbrev n_bytes_Buffer_tryGrowByReslice : Nat := 64
abbrev n_bytes_Buffer_grow : Nat := 65
abbrev n_internal_strconv_Itoa : Nat := 66
abbrev n_slices_insertionSortCmpFunc_int : Nat := 67
abbrev n_slices_heapSortCmpFunc_int : Nat := 68
abbrev n_slices_breakPatternsCmpFunc_int : Nat := 69
abbrev n_slices_choosePivotCmpFunc_int : Nat := 70
abbrev n_slices_reverseRangeCmpFunc_int : Nat := 71
abbrev n_slices_partialInsertionSortCmpFunc_int : Nat := 72
abbrev n_slices_partitionEqualCmpFunc_int : Nat := 73
abbrev n_slices_partitionCmpFunc_int : Nat := 74
abbrev n_math_bits_Len32 : Nat := 75
abbrev n_math_bits_Len64 : Nat := 76
/- slices.IndexFunc[[][]int,[]int] -/
def zq22_0 : AT := (.rd (some 4) none (.mov (.c (.int .i64 0)))
 .done)
def zq22_1 : AT := (.rd (some 6) none (.mov (.t 0))
 (.rd (some 7) none (.len 0 (.t 6))
 (.rd (some 8) none (.mov (.c (.int .i64 0)))
 .done)))
def zq22_2 : AT := (.rd (some 9) none (.bin .lss (.t 8) (.t 7))
 .done)
def zq22_3 : AT := (.rd (some 10) none (.mov (.t 8))
 (.rd (some 5) none (.mov (.t 10))
 .done))
def zq22_4 : AT := (.rd (some 11) none (.mov (.t 1))
 (.rd (some 12) none (.mov (.t 0))
 (.rd (some 13) none (.mov (.t 5))
 (.rd (some 14) none (.iaddr none 1 (.t 12) (.t 13))
 (.rd (some 15) none (.load false 1 (.t 14))
 (.cl false (some 16) none (.t 11) [(.t 15)]
 .done))))))
def zq22_5 : AT := (.rd (some 17) none (.mov (.t 5))
 (.rd (some 4) none (.mov (.t 17))
 .done))
def zq22_6 : AT := (.rd (some 18) none (.bin .add (.t 8) (.c (.int .i64 1)))
 (.rd (some 8) none (.mov (.t 18))
 .done))
def zq22_7 : AT := (.rd (some 4) none (.mov (.c (.int .i64 (-1))))
 .done)
def slices_IndexFunc_int_int_77 : AF := ⟨19, [.tmp 4],
  (.seq (.reg zq22_0 [])
  (.seq (.seq (.reg zq22_1 [6])
  (.block 0 (.loop (.seq (.reg zq22_2 [])
  (.seq (.cond (.t 9)
  .skip
  (.exit 0))
  (.seq (.block 1 (.seq (.reg zq22_3 [10])
  (.seq (.reg zq22_4 [11, 12, 13, 14, 15])
  (.cond (.t 16)
  (.seq (.reg zq22_5 [17])
  .ret)
  .skip))))
  (.reg zq22_6 [18])))))))
  (.seq (.reg zq22_7 [])
  .ret)))⟩
abbrev n_slices_IndexFunc_int_int_77 : Nat := 77
abbrev n_bytes_Buffer_Len : Nat := 78
abbrev n_bytes_Buffer_Reset : Nat := 79
abbrev n_bytes_growSlice : Nat := 80
abbrev n_internal_strconv_FormatInt : Nat := 81
abbrev n_slices_siftDownCmpFunc_int : Nat := 82
abbrev n_slices_nextPowerOfTwo : Nat := 83
abbrev n_slices_xorshift_Next : Nat := 84
abbrev n_slices_medianAdjacentCmpFunc_int : Nat := 85
abbrev n_slices_medianCmpFunc_int : Nat := 86
abbrev n_bytes_growSlice_S1 : Nat := 87
abbrev n_internal_strconv_small : Nat := 88
abbrev n_internal_strconv_numDigits : Nat := 89
abbrev n_internal_strconv_formatBase10 : Nat := 90
abbrev n_internal_strconv_formatBits : Nat := 91
abbrev n_slices_order2CmpFunc_int : Nat := 92
abbrev n_internal_strconv_log10Pow2 : Nat := 93
abbrev n_internal_strconv_bool2_int : Nat := 94
abbrev n_internal_strconv_isPowerOfTwo : Nat := 95
abbrev n_math_bits_TrailingZeros : Nat := 96
abbrev n_math_bits_TrailingZeros32 : Nat := 97
abbrev n_math_bits_TrailingZeros64 : Nat := 98
abbrev n_errors_New : Nat := 118
abbrev n_gosem_cut_vars : Nat := 125
def tab : Nat → Option AF
  | 5 => some proofmarklaw05_ClauseModels
  | 6 => some proofmarklaw05_few
  | 7 => some proofmarklaw05_works
  | 8 => some clause_Units
  | 9 => some clause_Right
  | 10 => some clause_Holds
  | 11 => some proofmarkkit_SameInts
  | 13 => some clause_Assign
  | 17 => some proofmarkkit_Pick
  | 18 => some clause_Resolve
  | 19 => some proofmarklaw05_each
  | 20 => some proofmarkref05_Clause
  | 21 => some clause_Clean
  | 22 => some clause_Put
  | 23 => some clause_some_int
  | 24 => some clause_Units_S1
  | 25 => some slices_DeleteFunc_int_int
  | 26 => some slices_Clone_int_int
  | 27 => some clause_Units_S2
  | 28 => some clause_all_int
  | 29 => some clause_Units_S3
  | 30 => some slices_SortFunc_int_int
  | 33 => some clause_abs
  | 34 => some clause_all_int_34
  | 35 => some clause_Holds_S1
  | 36 => some clause_Holds_S1_S1
  | 37 => some clause_Assign_S1
  | 38 => some clause_Assign_S2
  | 39 => some clause_Assign_S3
  | 44 => some slices_Contains_int_int
  | 45 => some slices_Concat_int_int
  | 46 => some clause_Resolve_S1
  | 49 => some slices_Compact_int_int
  | 54 => some slices_ContainsFunc_int_int
  | 55 => some slices_IndexFunc_int_int
  | 56 => some clause_all_int__S1
  | 60 => some slices_ContainsFunc_int_int_60
  | 61 => some clause_all_int__S1_61
  | 62 => some slices_Index_int_int
  | 63 => some slices_Grow_int_int
  | 77 => some slices_IndexFunc_int_int_77
  | _ => none
theorem t_proofmarklaw05_ClauseModels : tab n_proofmarklaw05_ClauseModels = some proofmarklaw05_ClauseModels := rfl
theorem t_proofmarklaw05_few : tab n_proofmarklaw05_few = some proofmarklaw05_few := rfl
theorem t_proofmarklaw05_works : tab n_proofmarklaw05_works = some proofmarklaw05_works := rfl
theorem t_clause_Units : tab n_clause_Units = some clause_Units := rfl
theorem t_clause_Right : tab n_clause_Right = some clause_Right := rfl
theorem t_clause_Holds : tab n_clause_Holds = some clause_Holds := rfl
theorem t_proofmarkkit_SameInts : tab n_proofmarkkit_SameInts = some proofmarkkit_SameInts := rfl
theorem t_clause_Assign : tab n_clause_Assign = some clause_Assign := rfl
theorem t_proofmarkkit_Pick : tab n_proofmarkkit_Pick = some proofmarkkit_Pick := rfl
theorem t_clause_Resolve : tab n_clause_Resolve = some clause_Resolve := rfl
theorem t_proofmarklaw05_each : tab n_proofmarklaw05_each = some proofmarklaw05_each := rfl
theorem t_proofmarkref05_Clause : tab n_proofmarkref05_Clause = some proofmarkref05_Clause := rfl
theorem t_clause_Clean : tab n_clause_Clean = some clause_Clean := rfl
theorem t_clause_Put : tab n_clause_Put = some clause_Put := rfl
theorem t_clause_some_int : tab n_clause_some_int = some clause_some_int := rfl
theorem t_clause_Units_S1 : tab n_clause_Units_S1 = some clause_Units_S1 := rfl
theorem t_slices_DeleteFunc_int_int : tab n_slices_DeleteFunc_int_int = some slices_DeleteFunc_int_int := rfl
theorem t_slices_Clone_int_int : tab n_slices_Clone_int_int = some slices_Clone_int_int := rfl
theorem t_clause_Units_S2 : tab n_clause_Units_S2 = some clause_Units_S2 := rfl
theorem t_clause_all_int : tab n_clause_all_int = some clause_all_int := rfl
theorem t_clause_Units_S3 : tab n_clause_Units_S3 = some clause_Units_S3 := rfl
theorem t_slices_SortFunc_int_int : tab n_slices_SortFunc_int_int = some slices_SortFunc_int_int := rfl
theorem t_clause_abs : tab n_clause_abs = some clause_abs := rfl
theorem t_clause_all_int_34 : tab n_clause_all_int_34 = some clause_all_int_34 := rfl
theorem t_clause_Holds_S1 : tab n_clause_Holds_S1 = some clause_Holds_S1 := rfl
theorem t_clause_Holds_S1_S1 : tab n_clause_Holds_S1_S1 = some clause_Holds_S1_S1 := rfl
theorem t_clause_Assign_S1 : tab n_clause_Assign_S1 = some clause_Assign_S1 := rfl
theorem t_clause_Assign_S2 : tab n_clause_Assign_S2 = some clause_Assign_S2 := rfl
theorem t_clause_Assign_S3 : tab n_clause_Assign_S3 = some clause_Assign_S3 := rfl
theorem t_slices_Contains_int_int : tab n_slices_Contains_int_int = some slices_Contains_int_int := rfl
theorem t_slices_Concat_int_int : tab n_slices_Concat_int_int = some slices_Concat_int_int := rfl
theorem t_clause_Resolve_S1 : tab n_clause_Resolve_S1 = some clause_Resolve_S1 := rfl
theorem t_slices_Compact_int_int : tab n_slices_Compact_int_int = some slices_Compact_int_int := rfl
theorem t_slices_ContainsFunc_int_int : tab n_slices_ContainsFunc_int_int = some slices_ContainsFunc_int_int := rfl
theorem t_slices_IndexFunc_int_int : tab n_slices_IndexFunc_int_int = some slices_IndexFunc_int_int := rfl
theorem t_clause_all_int__S1 : tab n_clause_all_int__S1 = some clause_all_int__S1 := rfl
theorem t_slices_ContainsFunc_int_int_60 : tab n_slices_ContainsFunc_int_int_60 = some slices_ContainsFunc_int_int_60 := rfl
theorem t_clause_all_int__S1_61 : tab n_clause_all_int__S1_61 = some clause_all_int__S1_61 := rfl
theorem t_slices_Index_int_int : tab n_slices_Index_int_int = some slices_Index_int_int := rfl
theorem t_slices_Grow_int_int : tab n_slices_Grow_int_int = some slices_Grow_int_int := rfl
theorem t_slices_IndexFunc_int_int_77 : tab n_slices_IndexFunc_int_int_77 = some slices_IndexFunc_int_int_77 := rfl
end Go.Proofs.YtingdebioipemaaDoor
