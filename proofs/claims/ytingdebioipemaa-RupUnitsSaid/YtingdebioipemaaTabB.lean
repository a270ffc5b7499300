/- The translations of the functions, by a program of mine. -/
import Derived.Test.YtingdebioipemaaTabA
namespace Go.Proofs.Ytingdebioipemaa
open Go Go.Am
set_option maxRecDepth 100000
/- slices.Clone[[]int,int] -/
def slices_Clone_int_int_r0 : AT := (.rd (some 2) none (.mov (.c (.lst 0 [] true)))
 .done)
def slices_Clone_int_int_r1 : AT := (.rd (some 3) none (.mov (.t 0))
 (.rd (some 4) none (.eqn false (.t 3))
 .done))
def slices_Clone_int_int_r2 : AT := (.rd (some 2) none (.mov (.c (.lst 0 [] true)))
 .done)
def slices_Clone_int_int_r3 : AT := (.wr false (some 5) none (.bsl false false 3 1 [(.int .i64 0)] 0 [])
 (.rd (some 6) none (.mov (.t 0))
 (.wr false (some 7) none (.app 3 1 8 false (.t 5) (.t 6))
 (.rd (some 2) none (.mov (.t 7))
 .done))))
def slices_Clone_int_int : AF := ⟨8, [.tmp 2],
  (.seq (.reg slices_Clone_int_int_r0 [])
  (.seq (.seq (.reg slices_Clone_int_int_r1 [3])
  (.cond (.t 4)
  (.seq (.reg slices_Clone_int_int_r2 [])
  .ret)
  .skip))
  (.seq (.reg slices_Clone_int_int_r3 [5, 6, 7])
  .ret)))⟩
abbrev n_slices_Clone_int_int : Nat := 26
/- proofmark/rup.Short$1 -/
def rup_Short_S1_r0 : AT := (.rd (some 4) none (.mov (.c (.bool false)))
 .done)
def rup_Short_S1_r1 : AT := (.rd (some 6) none (.load false 1 (.t 2))
 (.rd (some 8) none (.mov (.t 0))
 (.rd (some 9) none (.mov (.t 0))
 (.rd (some 10) none (.bin .add (.t 9) (.c (.int .i64 1)))
 (.alt (.rd (some 5) none (.load true 2 (.t 1))
 (.cl true (some 7) none (.c (.fn (.func 29) [] [])) [(.t 6)]
 (.cl false (some 11) none (.c (.fn (.func 28) [] [])) [(.t 7), (.t 8), (.t 10)]
 (.cl false (some 12) none (.c (.fn (.func 17) [] [])) [(.t 5), (.t 11)]
 (.rd (some 13) none (.un .not (.t 12))
 (.rd (some 4) none (.mov (.t 13))
 .done)))))) (.cl true (some 7) none (.c (.fn (.func 29) [] [])) [(.t 6)]
 (.alt (.rd (some 5) none (.load true 2 (.t 1))
 (.cl false (some 11) none (.c (.fn (.func 28) [] [])) [(.t 7), (.t 8), (.t 10)]
 (.cl false (some 12) none (.c (.fn (.func 17) [] [])) [(.t 5), (.t 11)]
 (.rd (some 13) none (.un .not (.t 12))
 (.rd (some 4) none (.mov (.t 13))
 .done))))) (.cl false (some 11) none (.c (.fn (.func 28) [] [])) [(.t 7), (.t 8), (.t 10)]
 (.rd (some 5) none (.load true 2 (.t 1))
 (.cl false (some 12) none (.c (.fn (.func 17) [] [])) [(.t 5), (.t 11)]
 (.rd (some 13) none (.un .not (.t 12))
 (.rd (some 4) none (.mov (.t 13))
 .done))))))))))))
def rup_Short_S1 : AF := ⟨14, [.tmp 4],
  (.seq (.reg rup_Short_S1_r0 [])
  (.seq (.reg rup_Short_S1_r1 [5, 6, 7, 8, 9, 10, 11, 12, 13])
  .ret))⟩
abbrev n_rup_Short_S1 : Nat := 27
/- slices.Delete[[][]int,[]int] -/
def slices_Delete_int_int_r0 : AT := (.rd (some 6) none (.mov (.c (.lst 0 [] true)))
 .done)
def slices_Delete_int_int_r1 : AT := (.rd (some 8) none (.mov (.t 0))
 (.rd (some 9) none (.mov (.t 1))
 (.rd (some 10) none (.mov (.t 2))
 (.rd (some 11) none (.mov (.t 0))
 (.rd (some 12) none (.len 0 (.t 11))
 (.rd (some 13) none (.slc 1 (.t 8) (some (.t 9)) (some (.t 10)) (some (.t 12)))
 .done))))))
def slices_Delete_int_int_r2 : AT := (.rd (some 14) none (.mov (.t 1))
 (.rd (some 15) none (.mov (.t 2))
 (.rd (some 16) none (.bin .eql (.t 14) (.t 15))
 .done)))
def slices_Delete_int_int_r3 : AT := (.rd (some 17) none (.mov (.t 0))
 (.rd (some 6) none (.mov (.t 17))
 .done))
def slices_Delete_int_int_r4 : AT := (.rd (some 18) none (.mov (.t 0))
 (.rd (some 19) none (.len 0 (.t 18))
 (.rd (some 7) none (.mov (.t 19))
 .done)))
def slices_Delete_int_int_r5 : AT := (.rd (some 20) none (.mov (.t 0))
 (.rd (some 21) none (.mov (.t 1))
 (.rd (some 22) none (.slc 1 (.t 20) none (some (.t 21)) none)
 (.rd (some 23) none (.mov (.t 0))
 (.rd (some 24) none (.mov (.t 2))
 (.rd (some 25) none (.slc 1 (.t 23) (some (.t 24)) none none)
 (.wr false (some 26) none (.app 25 1 24 false (.t 22) (.t 25))
 (.rd (some 0) none (.mov (.t 26))
 .done))))))))
def slices_Delete_int_int_r6 : AT := (.rd (some 27) none (.mov (.t 0))
 (.rd (some 28) none (.mov (.t 0))
 (.rd (some 29) none (.len 0 (.t 28))
 (.rd (some 30) none (.mov (.t 7))
 (.rd (some 31) none (.slc 1 (.t 27) (some (.t 29)) (some (.t 30)) none)
 (.wr false none none (.clr 1 [(.lst 0 [] true)] (.t 31))
 .done))))))
def slices_Delete_int_int_r7 : AT := (.rd (some 32) none (.mov (.t 0))
 (.rd (some 6) none (.mov (.t 32))
 .done))
def slices_Delete_int_int : AF := ⟨33, [.tmp 6],
  (.seq (.reg slices_Delete_int_int_r0 [])
  (.seq (.reg slices_Delete_int_int_r1 [8, 9, 10, 11, 12, 13])
  (.seq (.seq (.reg slices_Delete_int_int_r2 [14, 15])
  (.cond (.t 16)
  (.seq (.reg slices_Delete_int_int_r3 [17])
  .ret)
  .skip))
  (.seq (.reg slices_Delete_int_int_r4 [18, 19])
  (.seq (.reg slices_Delete_int_int_r5 [20, 21, 22, 23, 24, 25, 26])
  (.seq (.reg slices_Delete_int_int_r6 [27, 28, 29, 30, 31])
  (.seq (.reg slices_Delete_int_int_r7 [32])
  .ret)))))))⟩
abbrev n_slices_Delete_int_int : Nat := 28
/- slices.Clone[[][]int,[]int] -/
def slices_Clone_int_int_29_r0 : AT := (.rd (some 2) none (.mov (.c (.lst 0 [] true)))
 .done)
def slices_Clone_int_int_29_r1 : AT := (.rd (some 3) none (.mov (.t 0))
 (.rd (some 4) none (.eqn false (.t 3))
 .done))
def slices_Clone_int_int_29_r2 : AT := (.rd (some 2) none (.mov (.c (.lst 0 [] true)))
 .done)
def slices_Clone_int_int_29_r3 : AT := (.wr false (some 5) none (.bsl false false 25 1 [(.lst 0 [] true)] 0 [])
 (.rd (some 6) none (.mov (.t 0))
 (.wr false (some 7) none (.app 25 1 24 false (.t 5) (.t 6))
 (.rd (some 2) none (.mov (.t 7))
 .done))))
def slices_Clone_int_int_29 : AF := ⟨8, [.tmp 2],
  (.seq (.reg slices_Clone_int_int_29_r0 [])
  (.seq (.seq (.reg slices_Clone_int_int_29_r1 [3])
  (.cond (.t 4)
  (.seq (.reg slices_Clone_int_int_29_r2 [])
  .ret)
  .skip))
  (.seq (.reg slices_Clone_int_int_29_r3 [5, 6, 7])
  .ret)))⟩
abbrev n_slices_Clone_int_int_29 : Nat := 29
/- proofmark/rup.back -/
def rup_back_r0 : AT := (.wr false (some 1) none (.box 3 (.t 0))
 (.rd (some 2) none (.mov (.c (.val .nilFunc)))
 .done))
def rup_back_r1 : AT := (.rd (some 3) none (.mkfn (.func 48) [] [(.t 1)])
 (.rd (some 2) none (.mov (.t 3))
 .done))
def rup_back : AF := ⟨4, [.tmp 2],
  (.seq (.reg rup_back_r0 [])
  (.seq (.reg rup_back_r1 [3])
  .ret))⟩
abbrev n_rup_back : Nat := 30
abbrev n_proofmarkref08_without : Nat := 31
/- proofmark/clause.Clean -/
def clause_Clean_r0 : AT := (.rd (some 2) none (.mov (.c (.lst 0 [] true)))
 (.rd (some 3) none (.mov (.c (.bool false)))
 .done))
def clause_Clean_r1 : AT := (.rd (some 7) none (.mov (.t 0))
 (.cl false (some 8) none (.c (.fn (.func 26) [] [])) [(.t 7)]
 (.rd (some 4) none (.mov (.t 8))
 .done)))
def clause_Clean_r2 : AT := (.rd (some 9) none (.mov (.t 4))
 (.cl false (some 10) none (.c (.fn (.func 43) [] [])) [(.t 9), (.c (.fn (.func 49) [] []))]
 .done))
def clause_Clean_r3 : AT := (.rd (some 11) none (.mov (.t 4))
 (.cl false (some 12) none (.c (.fn (.func 51) [] [])) [(.t 11)]
 (.rd (some 4) none (.mov (.t 12))
 .done)))
def clause_Clean_r4 : AT := (.rd (some 13) none (.mov (.t 4))
 (.rd (some 14) none (.len 0 (.t 13))
 (.rd (some 15) none (.mov (.c (.int .i64 0)))
 .done)))
def clause_Clean_r5 : AT := (.rd (some 16) none (.bin .lss (.t 15) (.t 14))
 .done)
def clause_Clean_r6 : AT := (.rd (some 17) none (.mov (.t 15))
 (.rd (some 18) none (.iaddr none 1 (.t 13) (.t 15))
 (.rd (some 19) none (.load false 1 (.t 18))
 (.rd (some 5) none (.mov (.t 17))
 (.rd (some 6) none (.mov (.t 19))
 .done)))))
def clause_Clean_r7 : AT := (.rd (some 20) none (.mov (.t 6))
 (.rd (some 21) none (.bin .eql (.t 20) (.c (.int .i64 0)))
 (.rd (some 22) none (.mov (.t 21))
 (.rd (some 23) (some (22, false)) (.mov (.t 6))
 (.rd (some 24) (some (22, false)) (.bin .lss (.t 23) (.c (.int .i64 0)))
 (.rd (some 25) (some (22, false)) (.mov (.t 24))
 (.rd (some 26) (some (25, true)) (.mov (.t 6))
 (.rd (some 27) (some (25, true)) (.mov (.t 6))
 (.rd (some 28) (some (25, true)) (.un .neg (.t 27))
 (.rd (some 29) (some (25, true)) (.bin .eql (.t 26) (.t 28))
 (.rd (some 30) (some (22, false)) (.pick (.t 25) (.t 29) (.c (.bool false)))
 (.rd (some 31) none (.pick (.t 22) (.c (.bool true)) (.t 30))
 (.rd (some 32) none (.mov (.t 31))
 (.rd (some 33) (some (32, false)) (.mov (.t 5))
 (.rd (some 34) (some (32, false)) (.bin .gtr (.t 33) (.c (.int .i64 0)))
 (.rd (some 35) (some (32, false)) (.mov (.t 34))
 (.rd (some 36) (some (35, true)) (.mov (.t 4))
 (.rd (some 37) (some (35, true)) (.mov (.t 5))
 (.rd (some 38) (some (35, true)) (.bin .sub (.t 37) (.c (.int .i64 1)))
 (.rd (some 39) (some (35, true)) (.iaddr none 1 (.t 36) (.t 38))
 (.rd (some 40) (some (35, true)) (.load false 1 (.t 39))
 (.rd (some 41) (some (35, true)) (.mov (.t 6))
 (.rd (some 42) (some (35, true)) (.un .neg (.t 41))
 (.rd (some 43) (some (35, true)) (.bin .eql (.t 40) (.t 42))
 (.rd (some 44) (some (32, false)) (.pick (.t 35) (.t 43) (.c (.bool false)))
 (.rd (some 45) none (.pick (.t 32) (.c (.bool true)) (.t 44))
 .done))))))))))))))))))))))))))
def clause_Clean_r8 : AT := (.rd (some 2) none (.mov (.c (.lst 0 [] true)))
 (.rd (some 3) none (.mov (.c (.bool false)))
 .done))
def clause_Clean_r9 : AT := (.rd (some 46) none (.bin .add (.t 15) (.c (.int .i64 1)))
 (.rd (some 15) none (.mov (.t 46))
 .done))
def clause_Clean_r10 : AT := (.rd (some 47) none (.mov (.t 4))
 (.rd (some 2) none (.mov (.t 47))
 (.rd (some 3) none (.mov (.c (.bool true)))
 .done)))
def clause_Clean : AF := ⟨48, [.tmp 2, .tmp 3],
  (.seq (.reg clause_Clean_r0 [])
  (.seq (.reg clause_Clean_r1 [7, 8])
  (.seq (.reg clause_Clean_r2 [9, 10])
  (.seq (.reg clause_Clean_r3 [11, 12])
  (.seq (.seq (.reg clause_Clean_r4 [])
  (.block 0 (.loop (.seq (.reg clause_Clean_r5 [])
  (.seq (.cond (.t 16)
  .skip
  (.exit 0))
  (.seq (.block 1 (.seq (.reg clause_Clean_r6 [17, 18, 19])
  (.seq (.reg clause_Clean_r7 [20, 21, 22, 23, 24, 25, 26, 27, 28, 29, 30, 31, 32, 33, 34, 35, 36, 37, 38, 39, 40, 41, 42, 43, 44])
  (.cond (.t 45)
  (.seq (.reg clause_Clean_r8 [])
  .ret)
  .skip))))
  (.reg clause_Clean_r9 [46])))))))
  (.seq (.reg clause_Clean_r10 [47])
  .ret))))))⟩
abbrev n_clause_Clean : Nat := 32
/- proofmark/clause.Assign -/
def clause_Assign_r0 : AT := (.wr false (some 2) none (.box 24 (.t 0))
 (.wr false (some 4) none (.new 24 [(.int .i64 0), (.lst 0 [] true)])
 (.rd (some 5) none (.mov (.c (.bool false)))
 .done)))
def clause_Assign_r1 : AT := (.rd (some 12) none (.load true 2 (.t 2))
 (.cl false (some 13) none (.c (.fn (.func 20) [] [])) [(.t 12)]
 (.rd (some 14) none (.un .not (.t 13))
 (.rd (some 15) none (.mov (.t 14))
 (.rd (some 16) (some (15, false)) (.faddr 0 (.t 2))
 (.rd (some 17) (some (15, false)) (.load false 1 (.t 16))
 (.rd (some 18) (some (15, false)) (.mov (.t 1))
 (.wr false (some 19) (some (15, false)) (.bsl false false 25 1 [(.lst 0 [] true)] 1 [(0, 1, (.t 18))])
 (.rd (some 20) (some (15, false)) (.build [(.int .i64 0), (.lst 0 [] true)] [(0, 1, (.t 17)), (1, 1, (.t 19))])
 (.cl false (some 21) (some (15, false)) (.c (.fn (.func 20) [] [])) [(.t 20)]
 (.rd (some 22) (some (15, false)) (.un .not (.t 21))
 (.rd (some 23) none (.pick (.t 15) (.c (.bool true)) (.t 22))
 .done))))))))))))
def clause_Assign_r2 : AT := (.rd (some 24) none (.build [(.int .i64 0), (.lst 0 [] true)] [])
 (.wr false none none (.store 2 (.t 4) (.t 24))
 (.rd (some 5) none (.mov (.c (.bool false)))
 .done)))
def clause_Assign_r3 : AT := (.wr false (some 25) none .mkmap
 (.wr false (some 6) none (.new 60 [(.val (.map none))])
 (.wr false none none (.store 1 (.t 6) (.t 25))
 .done)))
def clause_Assign_r4 : AT := (.rd (some 26) none (.mov (.t 1))
 (.rd (some 27) none (.len 0 (.t 26))
 (.rd (some 28) none (.mov (.c (.int .i64 0)))
 .done)))
def clause_Assign_r5 : AT := (.rd (some 29) none (.bin .lss (.t 28) (.t 27))
 .done)
def clause_Assign_r6 : AT := (.rd (some 30) none (.iaddr none 1 (.t 26) (.t 28))
 (.rd (some 31) none (.load false 1 (.t 30))
 (.rd (some 8) none (.mov (.t 31))
 .done)))
def clause_Assign_r7 : AT := (.rd (some 32) none (.load false 1 (.t 6))
 (.rd (some 33) none (.mov (.t 8))
 (.wr false none none (.mapup false [.i] (.t 32) (.t 33) (.c (.int .i64 1)))
 .done)))
def clause_Assign_r8 : AT := (.rd (some 34) none (.bin .add (.t 28) (.c (.int .i64 1)))
 (.rd (some 28) none (.mov (.t 34))
 .done))
def clause_Assign_r9 : AT := (.rd (some 35) none (.mov (.t 1))
 (.rd (some 36) none (.mkfn (.func 52) [] [(.t 6)])
 (.cl false (some 37) none (.c (.fn (.func 37) [] [])) [(.t 35), (.t 36)]
 .done)))
def clause_Assign_r10 : AT := (.rd (some 38) none (.build [(.int .i64 0), (.lst 0 [] true)] [])
 (.wr false none none (.store 2 (.t 4) (.t 38))
 (.rd (some 5) none (.mov (.c (.bool false)))
 .done)))
def clause_Assign_r11 : AT := (.rd (some 39) none (.faddr 0 (.t 2))
 (.rd (some 40) none (.load false 1 (.t 39))
 (.rd (some 41) none (.build [(.int .i64 0), (.lst 0 [] true)] [(0, 1, (.t 40))])
 (.wr false (some 9) none (.new 24 [(.int .i64 0), (.lst 0 [] true)])
 (.wr false none none (.store 2 (.t 9) (.t 41))
 .done)))))
def clause_Assign_r12 : AT := (.rd (some 42) none (.faddr 1 (.t 2))
 (.rd (some 43) none (.load false 1 (.t 42))
 (.rd (some 44) none (.len 0 (.t 43))
 (.rd (some 45) none (.mov (.c (.int .i64 0)))
 .done))))
def clause_Assign_r13 : AT := (.rd (some 46) none (.bin .lss (.t 45) (.t 44))
 .done)
def clause_Assign_r14 : AT := (.rd (some 47) none (.iaddr none 1 (.t 43) (.t 45))
 (.rd (some 48) none (.load false 1 (.t 47))
 (.rd (some 11) none (.mov (.t 48))
 .done)))
def clause_Assign_r15 : AT := (.rd (some 49) none (.mov (.t 11))
 (.rd (some 50) none (.mkfn (.func 53) [] [(.t 6)])
 (.cl false (some 51) none (.c (.fn (.func 37) [] [])) [(.t 49), (.t 50)]
 (.rd (some 52) none (.un .not (.t 51))
 .done))))
def clause_Assign_r16 : AT := (.rd (some 53) none (.faddr 1 (.t 9))
 (.rd (some 55) none (.mov (.t 11))
 (.rd (some 57) none (.mkfn (.func 54) [] [(.t 6)])
 (.alt (.rd (some 54) none (.load false 1 (.t 53))
 (.cl true (some 56) none (.c (.fn (.func 26) [] [])) [(.t 55)]
 (.cl false (some 58) none (.c (.fn (.func 39) [] [])) [(.t 56), (.t 57)]
 (.wr true (some 59) none (.bsl false false 25 1 [(.lst 0 [] true)] 1 [(0, 1, (.t 58))])
 (.wr false (some 60) none (.app 25 1 24 false (.t 54) (.t 59))
 (.rd (some 61) none (.faddr 1 (.t 9))
 (.wr false none none (.store 1 (.t 61) (.t 60))
 .done))))))) (.cl true (some 56) none (.c (.fn (.func 26) [] [])) [(.t 55)]
 (.alt (.rd (some 54) none (.load false 1 (.t 53))
 (.cl false (some 58) none (.c (.fn (.func 39) [] [])) [(.t 56), (.t 57)]
 (.wr true (some 59) none (.bsl false false 25 1 [(.lst 0 [] true)] 1 [(0, 1, (.t 58))])
 (.wr false (some 60) none (.app 25 1 24 false (.t 54) (.t 59))
 (.rd (some 61) none (.faddr 1 (.t 9))
 (.wr false none none (.store 1 (.t 61) (.t 60))
 .done)))))) (.cl false (some 58) none (.c (.fn (.func 39) [] [])) [(.t 56), (.t 57)]
 (.alt (.rd (some 54) none (.load false 1 (.t 53))
 (.wr true (some 59) none (.bsl false false 25 1 [(.lst 0 [] true)] 1 [(0, 1, (.t 58))])
 (.wr false (some 60) none (.app 25 1 24 false (.t 54) (.t 59))
 (.rd (some 61) none (.faddr 1 (.t 9))
 (.wr false none none (.store 1 (.t 61) (.t 60))
 .done))))) (.wr true (some 59) none (.bsl false false 25 1 [(.lst 0 [] true)] 1 [(0, 1, (.t 58))])
 (.rd (some 54) none (.load false 1 (.t 53))
 (.wr false (some 60) none (.app 25 1 24 false (.t 54) (.t 59))
 (.rd (some 61) none (.faddr 1 (.t 9))
 (.wr false none none (.store 1 (.t 61) (.t 60))
 .done)))))))))))))
def clause_Assign_r17 : AT := (.rd (some 62) none (.bin .add (.t 45) (.c (.int .i64 1)))
 (.rd (some 45) none (.mov (.t 62))
 .done))
def clause_Assign_r18 : AT := (.rd (some 63) none (.load true 2 (.t 9))
 (.wr false none none (.store 2 (.t 4) (.t 63))
 (.rd (some 5) none (.mov (.c (.bool true)))
 .done)))
def clause_Assign : AF := ⟨64, [.cell 4 true 2, .tmp 5],
  (.seq (.reg clause_Assign_r0 [])
  (.seq (.seq (.reg clause_Assign_r1 [12, 13, 14, 15, 16, 17, 18, 19, 20, 21, 22])
  (.cond (.t 23)
  (.seq (.reg clause_Assign_r2 [24])
  .ret)
  .skip))
  (.seq (.reg clause_Assign_r3 [25])
  (.seq (.seq (.reg clause_Assign_r4 [])
  (.block 0 (.loop (.seq (.reg clause_Assign_r5 [])
  (.seq (.cond (.t 29)
  .skip
  (.exit 0))
  (.seq (.block 1 (.seq (.reg clause_Assign_r6 [30, 31])
  (.reg clause_Assign_r7 [32, 33])))
  (.reg clause_Assign_r8 [34])))))))
  (.seq (.seq (.reg clause_Assign_r9 [35, 36])
  (.cond (.t 37)
  (.seq (.reg clause_Assign_r10 [38])
  .ret)
  .skip))
  (.seq (.reg clause_Assign_r11 [39, 40, 41])
  (.seq (.seq (.reg clause_Assign_r12 [42])
  (.block 2 (.loop (.seq (.reg clause_Assign_r13 [])
  (.seq (.cond (.t 46)
  .skip
  (.exit 2))
  (.seq (.block 3 (.seq (.reg clause_Assign_r14 [47, 48])
  (.seq (.reg clause_Assign_r15 [49, 50, 51])
  (.cond (.t 52)
  (.reg clause_Assign_r16 [53, 54, 55, 56, 57, 58, 59, 60, 61])
  .skip))))
  (.reg clause_Assign_r17 [62])))))))
  (.seq (.reg clause_Assign_r18 [63])
  .ret))))))))⟩
abbrev n_clause_Assign : Nat := 33
abbrev n_proofmarkref05_Right : Nat := 34
abbrev n_proofmarkref07_Follows : Nat := 35
/- proofmark/proofmarkkit.SameInts -/
def proofmarkkit_SameInts_r0 : AT := (.rd (some 4) none (.mov (.c (.bool false)))
 .done)
def proofmarkkit_SameInts_r1 : AT := (.rd (some 6) none (.mov (.t 0))
 (.rd (some 7) none (.len 0 (.t 6))
 (.rd (some 8) none (.mov (.t 1))
 (.rd (some 9) none (.len 0 (.t 8))
 (.rd (some 10) none (.bin .neq (.t 7) (.t 9))
 .done)))))
def proofmarkkit_SameInts_r2 : AT := (.rd (some 4) none (.mov (.c (.bool false)))
 .done)
def proofmarkkit_SameInts_r3 : AT := (.rd (some 5) none (.mov (.c (.int .i64 0)))
 .done)
def proofmarkkit_SameInts_r4 : AT := (.rd (some 11) none (.mov (.t 5))
 (.rd (some 12) none (.mov (.t 0))
 (.rd (some 13) none (.len 0 (.t 12))
 (.rd (some 14) none (.bin .lss (.t 11) (.t 13))
 .done))))
def proofmarkkit_SameInts_r5 : AT := (.rd (some 17) none (.mov (.t 0))
 (.rd (some 18) none (.mov (.t 5))
 (.rd (some 19) none (.iaddr none 1 (.t 17) (.t 18))
 (.rd (some 20) none (.load false 1 (.t 19))
 (.rd (some 21) none (.mov (.t 1))
 (.rd (some 22) none (.mov (.t 5))
 (.rd (some 23) none (.iaddr none 1 (.t 21) (.t 22))
 (.rd (some 24) none (.load false 1 (.t 23))
 (.rd (some 25) none (.bin .neq (.t 20) (.t 24))
 .done)))))))))
def proofmarkkit_SameInts_r6 : AT := (.rd (some 4) none (.mov (.c (.bool false)))
 .done)
def proofmarkkit_SameInts_r7 : AT := (.rd (some 15) none (.mov (.t 5))
 (.rd (some 16) none (.bin .add (.t 15) (.c (.int .i64 1)))
 (.rd (some 5) none (.mov (.t 16))
 .done)))
def proofmarkkit_SameInts_r8 : AT := (.rd (some 4) none (.mov (.c (.bool true)))
 .done)
def proofmarkkit_SameInts : AF := ⟨26, [.tmp 4],
  (.seq (.reg proofmarkkit_SameInts_r0 [])
  (.seq (.seq (.reg proofmarkkit_SameInts_r1 [6, 7, 8, 9])
  (.cond (.t 10)
  (.seq (.reg proofmarkkit_SameInts_r2 [])
  .ret)
  .skip))
  (.seq (.seq (.reg proofmarkkit_SameInts_r3 [])
  (.block 0 (.loop (.seq (.seq (.reg proofmarkkit_SameInts_r4 [11, 12, 13])
  (.cond (.t 14)
  .skip
  (.exit 0)))
  (.seq (.block 1 (.seq (.reg proofmarkkit_SameInts_r5 [17, 18, 19, 20, 21, 22, 23, 24])
  (.cond (.t 25)
  (.seq (.reg proofmarkkit_SameInts_r6 [])
  .ret)
  .skip)))
  (.reg proofmarkkit_SameInts_r7 [15, 16]))))))
  (.seq (.reg proofmarkkit_SameInts_r8 [])
  .ret))))⟩
abbrev n_proofmarkkit_SameInts : Nat := 36
/- proofmark/clause.some[int] -/
def clause_some_int_r0 : AT := (.rd (some 4) none (.mov (.c (.bool false)))
 .done)
def clause_some_int_r1 : AT := (.rd (some 5) none (.mov (.t 0))
 (.rd (some 6) none (.mov (.t 1))
 (.cl false (some 7) none (.c (.fn (.func 58) [] [])) [(.t 5), (.t 6)]
 (.rd (some 4) none (.mov (.t 7))
 .done))))
def clause_some_int : AF := ⟨8, [.tmp 4],
  (.seq (.reg clause_some_int_r0 [])
  (.seq (.reg clause_some_int_r1 [5, 6, 7])
  .ret))⟩
abbrev n_clause_some_int : Nat := 37
/- proofmark/clause.Units$1 -/
def clause_Units_S1_r0 : AT := (.rd (some 3) none (.mov (.c (.bool false)))
 .done)
def clause_Units_S1_r1 : AT := (.rd (some 4) none (.load false 1 (.t 1))
 (.rd (some 5) none (.mov (.t 0))
 (.rd (some 6) none (.look false false [.i] (.int .i64 0) (.t 4) (.t 5))
 (.rd (some 7) none (.bin .gtr (.t 6) (.c (.int .i64 0)))
 (.rd (some 3) none (.mov (.t 7))
 .done)))))
def clause_Units_S1 : AF := ⟨8, [.tmp 3],
  (.seq (.reg clause_Units_S1_r0 [])
  (.seq (.reg clause_Units_S1_r1 [4, 5, 6, 7])
  .ret))⟩
abbrev n_clause_Units_S1 : Nat := 38
/- slices.DeleteFunc[[]int,int] -/
def slices_DeleteFunc_int_int_r0 : AT := (.rd (some 4) none (.mov (.c (.lst 0 [] true)))
 .done)
def slices_DeleteFunc_int_int_r1 : AT := (.rd (some 8) none (.mov (.t 0))
 (.rd (some 9) none (.mov (.t 1))
 (.cl false (some 10) none (.c (.fn (.func 59) [] [])) [(.t 8), (.t 9)]
 (.rd (some 5) none (.mov (.t 10))
 .done))))
def slices_DeleteFunc_int_int_r2 : AT := (.rd (some 11) none (.mov (.t 5))
 (.rd (some 12) none (.bin .eql (.t 11) (.c (.int .i64 (-1))))
 .done))
def slices_DeleteFunc_int_int_r3 : AT := (.rd (some 13) none (.mov (.t 0))
 (.rd (some 4) none (.mov (.t 13))
 .done))
def slices_DeleteFunc_int_int_r4 : AT := (.rd (some 14) none (.mov (.t 5))
 (.rd (some 15) none (.bin .add (.t 14) (.c (.int .i64 1)))
 (.rd (some 6) none (.mov (.t 15))
 .done)))
def slices_DeleteFunc_int_int_r5 : AT := (.rd (some 16) none (.mov (.t 6))
 (.rd (some 17) none (.mov (.t 0))
 (.rd (some 18) none (.len 0 (.t 17))
 (.rd (some 19) none (.bin .lss (.t 16) (.t 18))
 .done))))
def slices_DeleteFunc_int_int_r6 : AT := (.rd (some 22) none (.mov (.t 0))
 (.rd (some 23) none (.mov (.t 6))
 (.rd (some 24) none (.iaddr none 1 (.t 22) (.t 23))
 (.rd (some 25) none (.load false 1 (.t 24))
 (.rd (some 7) none (.mov (.t 25))
 .done)))))
def slices_DeleteFunc_int_int_r7 : AT := (.rd (some 26) none (.mov (.t 1))
 (.rd (some 27) none (.mov (.t 7))
 (.cl false (some 28) none (.t 26) [(.t 27)]
 (.rd (some 29) none (.un .not (.t 28))
 .done))))
def slices_DeleteFunc_int_int_r8 : AT := (.rd (some 30) none (.mov (.t 0))
 (.rd (some 31) none (.mov (.t 5))
 (.rd (some 32) none (.mov (.t 7))
 (.rd (some 33) none (.iaddr none 1 (.t 30) (.t 31))
 (.wr false none none (.store 1 (.t 33) (.t 32))
 .done)))))
def slices_DeleteFunc_int_int_r9 : AT := (.rd (some 34) none (.mov (.t 5))
 (.rd (some 35) none (.bin .add (.t 34) (.c (.int .i64 1)))
 (.rd (some 5) none (.mov (.t 35))
 .done)))
def slices_DeleteFunc_int_int_r10 : AT := (.rd (some 20) none (.mov (.t 6))
 (.rd (some 21) none (.bin .add (.t 20) (.c (.int .i64 1)))
 (.rd (some 6) none (.mov (.t 21))
 .done)))
def slices_DeleteFunc_int_int_r11 : AT := (.rd (some 36) none (.mov (.t 0))
 (.rd (some 37) none (.mov (.t 5))
 (.rd (some 38) none (.slc 1 (.t 36) (some (.t 37)) none none)
 (.wr false none none (.clr 1 [(.int .i64 0)] (.t 38))
 .done))))
def slices_DeleteFunc_int_int_r12 : AT := (.rd (some 39) none (.mov (.t 0))
 (.rd (some 40) none (.mov (.t 5))
 (.rd (some 41) none (.slc 1 (.t 39) none (some (.t 40)) none)
 (.rd (some 4) none (.mov (.t 41))
 .done))))
def slices_DeleteFunc_int_int : AF := ⟨42, [.tmp 4],
  (.seq (.reg slices_DeleteFunc_int_int_r0 [])
  (.seq (.reg slices_DeleteFunc_int_int_r1 [8, 9, 10])
  (.seq (.seq (.reg slices_DeleteFunc_int_int_r2 [11])
  (.cond (.t 12)
  (.seq (.reg slices_DeleteFunc_int_int_r3 [13])
  .ret)
  .skip))
  (.seq (.seq (.reg slices_DeleteFunc_int_int_r4 [14, 15])
  (.block 0 (.loop (.seq (.seq (.reg slices_DeleteFunc_int_int_r5 [16, 17, 18])
  (.cond (.t 19)
  .skip
  (.exit 0)))
  (.seq (.block 1 (.seq (.reg slices_DeleteFunc_int_int_r6 [22, 23, 24, 25])
  (.seq (.reg slices_DeleteFunc_int_int_r7 [26, 27, 28])
  (.cond (.t 29)
  (.seq (.reg slices_DeleteFunc_int_int_r8 [30, 31, 32, 33])
  (.reg slices_DeleteFunc_int_int_r9 [34, 35]))
  .skip))))
  (.reg slices_DeleteFunc_int_int_r10 [20, 21]))))))
  (.seq (.reg slices_DeleteFunc_int_int_r11 [36, 37, 38])
  (.seq (.reg slices_DeleteFunc_int_int_r12 [39, 40, 41])
  .ret))))))⟩
abbrev n_slices_DeleteFunc_int_int : Nat := 39
/- proofmark/clause.Units$2 -/
def clause_Units_S2_r0 : AT := (.rd (some 3) none (.mov (.c (.bool false)))
 .done)
def clause_Units_S2_r1 : AT := (.rd (some 4) none (.load false 1 (.t 1))
 (.rd (some 5) none (.mov (.t 0))
 (.rd (some 6) none (.un .neg (.t 5))
 (.rd (some 7) none (.look false false [.i] (.int .i64 0) (.t 4) (.t 6))
 (.rd (some 8) none (.bin .gtr (.t 7) (.c (.int .i64 0)))
 (.rd (some 3) none (.mov (.t 8))
 .done))))))
def clause_Units_S2 : AF := ⟨9, [.tmp 3],
  (.seq (.reg clause_Units_S2_r0 [])
  (.seq (.reg clause_Units_S2_r1 [4, 5, 6, 7, 8])
  .ret))⟩
abbrev n_clause_Units_S2 : Nat := 40
/- proofmark/clause.all[int] -/
def clause_all_int_r0 : AT := (.wr false (some 3) none (.box 51 (.t 1))
 (.rd (some 4) none (.mov (.c (.bool false)))
 .done))
def clause_all_int_r1 : AT := (.rd (some 5) none (.mov (.t 0))
 (.rd (some 6) none (.mkfn (.func 60) [] [(.t 3)])
 (.cl false (some 7) none (.c (.fn (.func 58) [] [])) [(.t 5), (.t 6)]
 (.rd (some 8) none (.un .not (.t 7))
 (.rd (some 4) none (.mov (.t 8))
 .done)))))
def clause_all_int : AF := ⟨9, [.tmp 4],
  (.seq (.reg clause_all_int_r0 [])
  (.seq (.reg clause_all_int_r1 [5, 6, 7, 8])
  .ret))⟩
abbrev n_clause_all_int : Nat := 41
/- proofmark/clause.Units$3 -/
def clause_Units_S3_r0 : AT := (.rd (some 3) none (.mov (.c (.bool false)))
 .done)
def clause_Units_S3_r1 : AT := (.rd (some 4) none (.mov (.t 0))
 (.rd (some 5) none (.load false 1 (.t 1))
 (.rd (some 6) none (.iaddr none 1 (.t 5) (.c (.int .i64 0)))
 (.rd (some 7) none (.load false 1 (.t 6))
 (.rd (some 8) none (.bin .eql (.t 4) (.t 7))
 (.rd (some 3) none (.mov (.t 8))
 .done))))))
def clause_Units_S3 : AF := ⟨9, [.tmp 3],
  (.seq (.reg clause_Units_S3_r0 [])
  (.seq (.reg clause_Units_S3_r1 [4, 5, 6, 7, 8])
  .ret))⟩
abbrev n_clause_Units_S3 : Nat := 42
/- slices.SortFunc[[]int,int] -/
def slices_SortFunc_int_int_r0 : AT := (.rd (some 5) none (.mov (.t 0))
 (.rd (some 6) none (.len 0 (.t 5))
 (.rd (some 4) none (.mov (.t 6))
 .done)))
def slices_SortFunc_int_int_r1 : AT := (.rd (some 7) none (.mov (.t 0))
 (.rd (some 8) none (.mov (.t 4))
 (.rd (some 9) none (.mov (.t 4))
 (.rd (some 10) none (.conv .u64 (.t 9))
 (.cl false (some 11) none (.c (.fn (.func 62) [] [])) [(.t 10)]
 (.rd (some 12) none (.mov (.t 1))
 (.cl false (some 13) none (.c (.fn (.func 61) [] [])) [(.t 7), (.c (.int .i64 0)), (.t 8), (.t 11), (.t 12)]
 .done)))))))
def slices_SortFunc_int_int : AF := ⟨14, [],
  (.seq (.reg slices_SortFunc_int_int_r0 [5, 6])
  (.reg slices_SortFunc_int_int_r1 [7, 8, 9, 10, 11, 12, 13]))⟩
abbrev n_slices_SortFunc_int_int : Nat := 43
abbrev n_clause_Units_S4 : Nat := 44
abbrev n_cmp_Compare_int : Nat := 45
abbrev n_clause_abs : Nat := 46
abbrev n_sat_Solve : Nat := 47
abbrev n_rup_back_S1 : Nat := 48
abbrev n_clause_Clean_S1 : Nat := 49
abbrev n_cmp_Or_int : Nat := 50
/- slices.Compact[[]int,int] -/
def slices_Compact_int_int_r0 : AT := (.rd (some 2) none (.mov (.c (.lst 0 [] true)))
 .done)
def slices_Compact_int_int_r1 : AT := (.rd (some 6) none (.mov (.t 0))
 (.rd (some 7) none (.len 0 (.t 6))
 (.rd (some 8) none (.bin .lss (.t 7) (.c (.int .i64 2)))
 .done)))
def slices_Compact_int_int_r2 : AT := (.rd (some 9) none (.mov (.t 0))
 (.rd (some 2) none (.mov (.t 9))
 .done))
def slices_Compact_int_int_r3 : AT := (.rd (some 3) none (.mov (.c (.int .i64 1)))
 .done)
def slices_Compact_int_int_r4 : AT := (.rd (some 10) none (.mov (.t 3))
 (.rd (some 11) none (.mov (.t 0))
 (.rd (some 12) none (.len 0 (.t 11))
 (.rd (some 13) none (.bin .lss (.t 10) (.t 12))
 .done))))
def slices_Compact_int_int_r5 : AT := (.rd (some 16) none (.mov (.t 0))
 (.rd (some 17) none (.mov (.t 3))
 (.rd (some 18) none (.iaddr none 1 (.t 16) (.t 17))
 (.rd (some 19) none (.load false 1 (.t 18))
 (.rd (some 20) none (.mov (.t 0))
 (.rd (some 21) none (.mov (.t 3))
 (.rd (some 22) none (.bin .sub (.t 21) (.c (.int .i64 1)))
 (.rd (some 23) none (.iaddr none 1 (.t 20) (.t 22))
 (.rd (some 24) none (.load false 1 (.t 23))
 (.rd (some 25) none (.bin .eql (.t 19) (.t 24))
 .done))))))))))
def slices_Compact_int_int_r6 : AT := (.rd (some 26) none (.mov (.t 0))
 (.rd (some 27) none (.mov (.t 3))
 (.rd (some 28) none (.slc 1 (.t 26) (some (.t 27)) none none)
 (.rd (some 4) none (.mov (.t 28))
 .done))))
def slices_Compact_int_int_r7 : AT := (.rd (some 5) none (.mov (.c (.int .i64 1)))
 .done)
def slices_Compact_int_int_r8 : AT := (.rd (some 29) none (.mov (.t 5))
 (.rd (some 30) none (.mov (.t 4))
 (.rd (some 31) none (.len 0 (.t 30))
 (.rd (some 32) none (.bin .lss (.t 29) (.t 31))
 .done))))
def slices_Compact_int_int_r9 : AT := (.rd (some 35) none (.mov (.t 4))
 (.rd (some 36) none (.mov (.t 5))
 (.rd (some 37) none (.iaddr none 1 (.t 35) (.t 36))
 (.rd (some 38) none (.load false 1 (.t 37))
 (.rd (some 39) none (.mov (.t 4))
 (.rd (some 40) none (.mov (.t 5))
 (.rd (some 41) none (.bin .sub (.t 40) (.c (.int .i64 1)))
 (.rd (some 42) none (.iaddr none 1 (.t 39) (.t 41))
 (.rd (some 43) none (.load false 1 (.t 42))
 (.rd (some 44) none (.bin .neq (.t 38) (.t 43))
 .done))))))))))
def slices_Compact_int_int_r10 : AT := (.rd (some 45) none (.mov (.t 0))
 (.rd (some 46) none (.mov (.t 3))
 (.rd (some 47) none (.mov (.t 4))
 (.rd (some 48) none (.mov (.t 5))
 (.rd (some 49) none (.iaddr none 1 (.t 47) (.t 48))
 (.rd (some 50) none (.load false 1 (.t 49))
 (.rd (some 51) none (.iaddr none 1 (.t 45) (.t 46))
 (.wr false none none (.store 1 (.t 51) (.t 50))
 .done))))))))
def slices_Compact_int_int_r11 : AT := (.rd (some 52) none (.mov (.t 3))
 (.rd (some 53) none (.bin .add (.t 52) (.c (.int .i64 1)))
 (.rd (some 3) none (.mov (.t 53))
 .done)))
def slices_Compact_int_int_r12 : AT := (.rd (some 33) none (.mov (.t 5))
 (.rd (some 34) none (.bin .add (.t 33) (.c (.int .i64 1)))
 (.rd (some 5) none (.mov (.t 34))
 .done)))
def slices_Compact_int_int_r13 : AT := (.rd (some 54) none (.mov (.t 0))
 (.rd (some 55) none (.mov (.t 3))
 (.rd (some 56) none (.slc 1 (.t 54) (some (.t 55)) none none)
 (.wr false none none (.clr 1 [(.int .i64 0)] (.t 56))
 .done))))
def slices_Compact_int_int_r14 : AT := (.rd (some 57) none (.mov (.t 0))
 (.rd (some 58) none (.mov (.t 3))
 (.rd (some 59) none (.slc 1 (.t 57) none (some (.t 58)) none)
 (.rd (some 2) none (.mov (.t 59))
 .done))))
def slices_Compact_int_int_r15 : AT := (.rd (some 14) none (.mov (.t 3))
 (.rd (some 15) none (.bin .add (.t 14) (.c (.int .i64 1)))
 (.rd (some 3) none (.mov (.t 15))
 .done)))
def slices_Compact_int_int_r16 : AT := (.rd (some 60) none (.mov (.t 0))
 (.rd (some 2) none (.mov (.t 60))
 .done))
def slices_Compact_int_int : AF := ⟨61, [.tmp 2],
  (.seq (.reg slices_Compact_int_int_r0 [])
  (.seq (.seq (.reg slices_Compact_int_int_r1 [6, 7])
  (.cond (.t 8)
  (.seq (.reg slices_Compact_int_int_r2 [9])
  .ret)
  .skip))
  (.seq (.seq (.reg slices_Compact_int_int_r3 [])
  (.block 0 (.loop (.seq (.seq (.reg slices_Compact_int_int_r4 [10, 11, 12])
  (.cond (.t 13)
  .skip
  (.exit 0)))
  (.seq (.block 1 (.seq (.reg slices_Compact_int_int_r5 [16, 17, 18, 19, 20, 21, 22, 23, 24])
  (.cond (.t 25)
  (.seq (.reg slices_Compact_int_int_r6 [26, 27, 28])
  (.seq (.seq (.reg slices_Compact_int_int_r7 [])
  (.block 2 (.loop (.seq (.seq (.reg slices_Compact_int_int_r8 [29, 30, 31])
  (.cond (.t 32)
  .skip
  (.exit 2)))
  (.seq (.block 3 (.seq (.reg slices_Compact_int_int_r9 [35, 36, 37, 38, 39, 40, 41, 42, 43])
  (.cond (.t 44)
  (.seq (.reg slices_Compact_int_int_r10 [45, 46, 47, 48, 49, 50, 51])
  (.reg slices_Compact_int_int_r11 [52, 53]))
  .skip)))
  (.reg slices_Compact_int_int_r12 [33, 34]))))))
  (.seq (.reg slices_Compact_int_int_r13 [54, 55, 56])
  (.seq (.reg slices_Compact_int_int_r14 [57, 58, 59])
  .ret))))
  .skip)))
  (.reg slices_Compact_int_int_r15 [14, 15]))))))
  (.seq (.reg slices_Compact_int_int_r16 [60])
  .ret))))⟩
abbrev n_slices_Compact_int_int : Nat := 51
/- proofmark/clause.Assign$1 -/
def clause_Assign_S1_r0 : AT := (.rd (some 3) none (.mov (.c (.bool false)))
 .done)
def clause_Assign_S1_r1 : AT := (.rd (some 4) none (.load false 1 (.t 1))
 (.rd (some 5) none (.mov (.t 0))
 (.rd (some 6) none (.un .neg (.t 5))
 (.rd (some 7) none (.look false false [.i] (.int .i64 0) (.t 4) (.t 6))
 (.rd (some 8) none (.bin .gtr (.t 7) (.c (.int .i64 0)))
 (.rd (some 3) none (.mov (.t 8))
 .done))))))
def clause_Assign_S1 : AF := ⟨9, [.tmp 3],
  (.seq (.reg clause_Assign_S1_r0 [])
  (.seq (.reg clause_Assign_S1_r1 [4, 5, 6, 7, 8])
  .ret))⟩
abbrev n_clause_Assign_S1 : Nat := 52
/- proofmark/clause.Assign$2 -/
def clause_Assign_S2_r0 : AT := (.rd (some 3) none (.mov (.c (.bool false)))
 .done)
def clause_Assign_S2_r1 : AT := (.rd (some 4) none (.load false 1 (.t 1))
 (.rd (some 5) none (.mov (.t 0))
 (.rd (some 6) none (.look false false [.i] (.int .i64 0) (.t 4) (.t 5))
 (.rd (some 7) none (.bin .gtr (.t 6) (.c (.int .i64 0)))
 (.rd (some 3) none (.mov (.t 7))
 .done)))))
def clause_Assign_S2 : AF := ⟨8, [.tmp 3],
  (.seq (.reg clause_Assign_S2_r0 [])
  (.seq (.reg clause_Assign_S2_r1 [4, 5, 6, 7])
  .ret))⟩
abbrev n_clause_Assign_S2 : Nat := 53
/- proofmark/clause.Assign$3 -/
def clause_Assign_S3_r0 : AT := (.rd (some 3) none (.mov (.c (.bool false)))
 .done)
def clause_Assign_S3_r1 : AT := (.rd (some 4) none (.load false 1 (.t 1))
 (.rd (some 5) none (.mov (.t 0))
 (.rd (some 6) none (.un .neg (.t 5))
 (.rd (some 7) none (.look false false [.i] (.int .i64 0) (.t 4) (.t 6))
 (.rd (some 8) none (.bin .gtr (.t 7) (.c (.int .i64 0)))
 (.rd (some 3) none (.mov (.t 8))
 .done))))))
def clause_Assign_S3 : AF := ⟨9, [.tmp 3],
  (.seq (.reg clause_Assign_S3_r0 [])
  (.seq (.reg clause_Assign_S3_r1 [4, 5, 6, 7, 8])
  .ret))⟩
abbrev n_clause_Assign_S3 : Nat := 54
abbrev n_proofmarkref05_lit : Nat := 55
abbrev n_proofmarkref05_Clean : Nat := 56
abbrev n_proofmarkref05_Units : Nat := 57
/- slices.ContainsFunc[[]int,int] -/
def slices_ContainsFunc_int_int_r0 : AT := (.rd (some 4) none (.mov (.c (.bool false)))
 .done)
def slices_ContainsFunc_int_int_r1 : AT := (.rd (some 5) none (.mov (.t 0))
 (.rd (some 6) none (.mov (.t 1))
 (.cl false (some 7) none (.c (.fn (.func 59) [] [])) [(.t 5), (.t 6)]
 (.rd (some 8) none (.bin .geq (.t 7) (.c (.int .i64 0)))
 (.rd (some 4) none (.mov (.t 8))
 .done)))))
def slices_ContainsFunc_int_int : AF := ⟨9, [.tmp 4],
  (.seq (.reg slices_ContainsFunc_int_int_r0 [])
  (.seq (.reg slices_ContainsFunc_int_int_r1 [5, 6, 7, 8])
  .ret))⟩
abbrev n_slices_ContainsFunc_int_int : Nat := 58
/- slices.IndexFunc[[]int,int] -/
def slices_IndexFunc_int_int_r0 : AT := (.rd (some 4) none (.mov (.c (.int .i64 0)))
 .done)
def slices_IndexFunc_int_int_r1 : AT := (.rd (some 6) none (.mov (.t 0))
 (.rd (some 7) none (.len 0 (.t 6))
 (.rd (some 8) none (.mov (.c (.int .i64 0)))
 .done)))
def slices_IndexFunc_int_int_r2 : AT := (.rd (some 9) none (.bin .lss (.t 8) (.t 7))
 .done)
def slices_IndexFunc_int_int_r3 : AT := (.rd (some 10) none (.mov (.t 8))
 (.rd (some 5) none (.mov (.t 10))
 .done))
def slices_IndexFunc_int_int_r4 : AT := (.rd (some 11) none (.mov (.t 1))
 (.rd (some 12) none (.mov (.t 0))
 (.rd (some 13) none (.mov (.t 5))
 (.rd (some 14) none (.iaddr none 1 (.t 12) (.t 13))
 (.rd (some 15) none (.load false 1 (.t 14))
 (.cl false (some 16) none (.t 11) [(.t 15)]
 .done))))))
def slices_IndexFunc_int_int_r5 : AT := (.rd (some 17) none (.mov (.t 5))
 (.rd (some 4) none (.mov (.t 17))
 .done))
def slices_IndexFunc_int_int_r6 : AT := (.rd (some 18) none (.bin .add (.t 8) (.c (.int .i64 1)))
 (.rd (some 8) none (.mov (.t 18))
 .done))
def slices_IndexFunc_int_int_r7 : AT := (.rd (some 4) none (.mov (.c (.int .i64 (-1))))
 .done)
def slices_IndexFunc_int_int : AF := ⟨19, [.tmp 4],
  (.seq (.reg slices_IndexFunc_int_int_r0 [])
  (.seq (.seq (.reg slices_IndexFunc_int_int_r1 [6])
  (.block 0 (.loop (.seq (.reg slices_IndexFunc_int_int_r2 [])
  (.seq (.cond (.t 9)
  .skip
  (.exit 0))
  (.seq (.block 1 (.seq (.reg slices_IndexFunc_int_int_r3 [10])
  (.seq (.reg slices_IndexFunc_int_int_r4 [11, 12, 13, 14, 15])
  (.cond (.t 16)
  (.seq (.reg slices_IndexFunc_int_int_r5 [17])
  .ret)
  .skip))))
  (.reg slices_IndexFunc_int_int_r6 [18])))))))
  (.seq (.reg slices_IndexFunc_int_int_r7 [])
  .ret)))⟩
abbrev n_slices_IndexFunc_int_int : Nat := 59
/- proofmark/clause.all[int]$1 -/
def clause_all_int__S1_r0 : AT := (.rd (some 3) none (.mov (.c (.bool false)))
 .done)
def clause_all_int__S1_r1 : AT := (.rd (some 4) none (.load false 1 (.t 1))
 (.rd (some 5) none (.mov (.t 0))
 (.cl false (some 6) none (.t 4) [(.t 5)]
 (.rd (some 7) none (.un .not (.t 6))
 (.rd (some 3) none (.mov (.t 7))
 .done)))))
def clause_all_int__S1 : AF := ⟨8, [.tmp 3],
  (.seq (.reg clause_all_int__S1_r0 [])
  (.seq (.reg clause_all_int__S1_r1 [4, 5, 6, 7])
  .ret))⟩
abbrev n_clause_all_int__S1 : Nat := 60
abbrev n_slices_pdqsortCmpFunc_int : Nat := 61
abbrev n_math_bits_Len : Nat := 62
abbrev n_cmp_isNaN_int : Nat := 63
abbrev n_sat_solver_begin : Nat := 64
abbrev n_sat_solver_run : Nat := 65
abbrev n_proofmarkref05_has : Nat := 66
abbrev n_proofmarkref05_before : Nat := 67
abbrev n_slices_insertionSortCmpFunc_int : Nat := 68
abbrev n_slices_heapSortCmpFunc_int : Nat := 69
abbrev n_slices_breakPatternsCmpFunc_int : Nat := 70
abbrev n_slices_choosePivotCmpFunc_int : Nat := 71
abbrev n_slices_reverseRangeCmpFunc_int : Nat := 72
abbrev n_slices_partialInsertionSortCmpFunc_int : Nat := 73
abbrev n_slices_partitionEqualCmpFunc_int : Nat := 74
abbrev n_slices_partitionCmpFunc_int : Nat := 75
abbrev n_math_bits_Len32 : Nat := 76
abbrev n_math_bits_Len64 : Nat := 77
abbrev n_sat_solver_add : Nat := 78
abbrev n_sat_solver_is : Nat := 79
abbrev n_sat_solver_set : Nat := 80
abbrev n_sat_solver_spread : Nat := 81
abbrev n_sat_solver_burn : Nat := 82
abbrev n_sat_solver_teach : Nat := 83
abbrev n_sat_solver_learn : Nat := 84
abbrev n_sat_solver_pick : Nat := 85
abbrev n_slices_siftDownCmpFunc_int : Nat := 86
abbrev n_slices_nextPowerOfTwo : Nat := 87
abbrev n_slices_xorshift_Next : Nat := 88
abbrev n_slices_medianAdjacentCmpFunc_int : Nat := 89
abbrev n_slices_medianCmpFunc_int : Nat := 90
abbrev n_sat_abs : Nat := 91
abbrev n_sat_solver_visit : Nat := 92
abbrev n_sat_solver_back : Nat := 93
abbrev n_sat_solver_learn_S1 : Nat := 94
abbrev n_slices_order2CmpFunc_int : Nat := 95
def tab : Nat → Option AF
  | 5 => some proofmarklaw08_RupMore
  | 6 => some proofmarklaw08_RupUnits
  | 8 => some proofmarklaw08_few
  | 9 => some proofmarklaw08_works
  | 11 => some rup_Short
  | 13 => some rup_Follows
  | 15 => some rup_First
  | 17 => some rup_Check
  | 19 => some proofmarklaw08_sameRows
  | 20 => some clause_Right
  | 24 => some clause_Units
  | 26 => some slices_Clone_int_int
  | 27 => some rup_Short_S1
  | 28 => some slices_Delete_int_int
  | 29 => some slices_Clone_int_int_29
  | 30 => some rup_back
  | 32 => some clause_Clean
  | 33 => some clause_Assign
  | 36 => some proofmarkkit_SameInts
  | 37 => some clause_some_int
  | 38 => some clause_Units_S1
  | 39 => some slices_DeleteFunc_int_int
  | 40 => some clause_Units_S2
  | 41 => some clause_all_int
  | 42 => some clause_Units_S3
  | 43 => some slices_SortFunc_int_int
  | 51 => some slices_Compact_int_int
  | 52 => some clause_Assign_S1
  | 53 => some clause_Assign_S2
  | 54 => some clause_Assign_S3
  | 58 => some slices_ContainsFunc_int_int
  | 59 => some slices_IndexFunc_int_int
  | 60 => some clause_all_int__S1
  | _ => none
theorem t_proofmarklaw08_RupMore : tab n_proofmarklaw08_RupMore = some proofmarklaw08_RupMore := rfl
theorem t_proofmarklaw08_RupUnits : tab n_proofmarklaw08_RupUnits = some proofmarklaw08_RupUnits := rfl
theorem t_proofmarklaw08_few : tab n_proofmarklaw08_few = some proofmarklaw08_few := rfl
theorem t_proofmarklaw08_works : tab n_proofmarklaw08_works = some proofmarklaw08_works := rfl
theorem t_rup_Short : tab n_rup_Short = some rup_Short := rfl
theorem t_rup_Follows : tab n_rup_Follows = some rup_Follows := rfl
theorem t_rup_First : tab n_rup_First = some rup_First := rfl
theorem t_rup_Check : tab n_rup_Check = some rup_Check := rfl
theorem t_proofmarklaw08_sameRows : tab n_proofmarklaw08_sameRows = some proofmarklaw08_sameRows := rfl
theorem t_clause_Right : tab n_clause_Right = some clause_Right := rfl
theorem t_clause_Units : tab n_clause_Units = some clause_Units := rfl
theorem t_slices_Clone_int_int : tab n_slices_Clone_int_int = some slices_Clone_int_int := rfl
theorem t_rup_Short_S1 : tab n_rup_Short_S1 = some rup_Short_S1 := rfl
theorem t_slices_Delete_int_int : tab n_slices_Delete_int_int = some slices_Delete_int_int := rfl
theorem t_slices_Clone_int_int_29 : tab n_slices_Clone_int_int_29 = some slices_Clone_int_int_29 := rfl
theorem t_rup_back : tab n_rup_back = some rup_back := rfl
theorem t_clause_Clean : tab n_clause_Clean = some clause_Clean := rfl
theorem t_clause_Assign : tab n_clause_Assign = some clause_Assign := rfl
theorem t_proofmarkkit_SameInts : tab n_proofmarkkit_SameInts = some proofmarkkit_SameInts := rfl
theorem t_clause_some_int : tab n_clause_some_int = some clause_some_int := rfl
theorem t_clause_Units_S1 : tab n_clause_Units_S1 = some clause_Units_S1 := rfl
theorem t_slices_DeleteFunc_int_int : tab n_slices_DeleteFunc_int_int = some slices_DeleteFunc_int_int := rfl
theorem t_clause_Units_S2 : tab n_clause_Units_S2 = some clause_Units_S2 := rfl
theorem t_clause_all_int : tab n_clause_all_int = some clause_all_int := rfl
theorem t_clause_Units_S3 : tab n_clause_Units_S3 = some clause_Units_S3 := rfl
theorem t_slices_SortFunc_int_int : tab n_slices_SortFunc_int_int = some slices_SortFunc_int_int := rfl
theorem t_slices_Compact_int_int : tab n_slices_Compact_int_int = some slices_Compact_int_int := rfl
theorem t_clause_Assign_S1 : tab n_clause_Assign_S1 = some clause_Assign_S1 := rfl
theorem t_clause_Assign_S2 : tab n_clause_Assign_S2 = some clause_Assign_S2 := rfl
theorem t_clause_Assign_S3 : tab n_clause_Assign_S3 = some clause_Assign_S3 := rfl
theorem t_slices_ContainsFunc_int_int : tab n_slices_ContainsFunc_int_int = some slices_ContainsFunc_int_int := rfl
theorem t_slices_IndexFunc_int_int : tab n_slices_IndexFunc_int_int = some slices_IndexFunc_int_int := rfl
theorem t_clause_all_int__S1 : tab n_clause_all_int__S1 = some clause_all_int__S1 := rfl
end Go.Proofs.Ytingdebioipemaa
