/- The translations of the functions, by a program of mine. -/
import Derived.Test.YtingdebioipemaaTabA
namespace Go.Proofs.Ytingdebioipemaa
open Go Go.Am
set_option maxRecDepth 100000
/- proofmark/clause.Assign -/
def clause_Assign_r0 : AT := (.wr false (some 2) none (.box 24 (.t 0))
 (.wr false (some 4) none (.new 24 [(.int .i64 0), (.lst 0 [] true)])
 (.rd (some 5) none (.mov (.c (.bool false)))
 .done)))
def clause_Assign_r1 : AT := (.rd (some 12) none (.load true 2 (.t 2))
 (.cl false (some 13) none (.c (.fn (.func 20) [] [])) [(.t 12)]
 (.rd (some 14) none (.un .not (.t 13))
 (.rd (some 15) none (.mov (.t 14))
 (.rd (some 16) (some (15, false)) (.faddr 0 (.t 2))
 (.rd (some 17) (some (15, false)) (.load false 1 (.t 16))
 (.rd (some 18) (some (15, false)) (.mov (.t 1))
 (.wr false (some 19) (some (15, false)) (.bsl false false 25 1 [(.lst 0 [] true)] 1 [(0, 1, (.t 18))])
 (.rd (some 20) (some (15, false)) (.build [(.int .i64 0), (.lst 0 [] true)] [(0, 1, (.t 17)), (1, 1, (.t 19))])
 (.cl false (some 21) (some (15, false)) (.c (.fn (.func 20) [] [])) [(.t 20)]
 (.rd (some 22) (some (15, false)) (.un .not (.t 21))
 (.rd (some 23) none (.pick (.t 15) (.c (.bool true)) (.t 22))
 .done))))))))))))
def clause_Assign_r2 : AT := (.rd (some 24) none (.build [(.int .i64 0), (.lst 0 [] true)] [])
 (.wr false none none (.store 2 (.t 4) (.t 24))
 (.rd (some 5) none (.mov (.c (.bool false)))
 .done)))
def clause_Assign_r3 : AT := (.wr false (some 25) none .mkmap
 (.wr false (some 6) none (.new 60 [(.val (.map none))])
 (.wr false none none (.store 1 (.t 6) (.t 25))
 .done)))
def clause_Assign_r4 : AT := (.rd (some 26) none (.mov (.t 1))
 (.rd (some 27) none (.len 0 (.t 26))
 (.rd (some 28) none (.mov (.c (.int .i64 0)))
 .done)))
def clause_Assign_r5 : AT := (.rd (some 29) none (.bin .lss (.t 28) (.t 27))
 .done)
def clause_Assign_r6 : AT := (.rd (some 30) none (.iaddr none 1 (.t 26) (.t 28))
 (.rd (some 31) none (.load false 1 (.t 30))
 (.rd (some 8) none (.mov (.t 31))
 .done)))
def clause_Assign_r7 : AT := (.rd (some 32) none (.load false 1 (.t 6))
 (.rd (some 33) none (.mov (.t 8))
 (.wr false none none (.mapup false [.i] (.t 32) (.t 33) (.c (.int .i64 1)))
 .done)))
def clause_Assign_r8 : AT := (.rd (some 34) none (.bin .add (.t 28) (.c (.int .i64 1)))
 (.rd (some 28) none (.mov (.t 34))
 .done))
def clause_Assign_r9 : AT := (.rd (some 35) none (.mov (.t 1))
 (.rd (some 36) none (.mkfn (.func 52) [] [(.t 6)])
 (.cl false (some 37) none (.c (.fn (.func 37) [] [])) [(.t 35), (.t 36)]
 .done)))
def clause_Assign_r10 : AT := (.rd (some 38) none (.build [(.int .i64 0), (.lst 0 [] true)] [])
 (.wr false none none (.store 2 (.t 4) (.t 38))
 (.rd (some 5) none (.mov (.c (.bool false)))
 .done)))
def clause_Assign_r11 : AT := (.rd (some 39) none (.faddr 0 (.t 2))
 (.rd (some 40) none (.load false 1 (.t 39))
 (.rd (some 41) none (.build [(.int .i64 0), (.lst 0 [] true)] [(0, 1, (.t 40))])
 (.wr false (some 9) none (.new 24 [(.int .i64 0), (.lst 0 [] true)])
 (.wr false none none (.store 2 (.t 9) (.t 41))
 .done)))))
def clause_Assign_r12 : AT := (.rd (some 42) none (.faddr 1 (.t 2))
 (.rd (some 43) none (.load false 1 (.t 42))
 (.rd (some 44) none (.len 0 (.t 43))
 (.rd (some 45) none (.mov (.c (.int .i64 0)))
 .done))))
def clause_Assign_r13 : AT := (.rd (some 46) none (.bin .lss (.t 45) (.t 44))
 .done)
def clause_Assign_r14 : AT := (.rd (some 47) none (.iaddr none 1 (.t 43) (.t 45))
 (.rd (some 48) none (.load false 1 (.t 47))
 (.rd (some 11) none (.mov (.t 48))
 .done)))
def clause_Assign_r15 : AT := (.rd (some 49) none (.mov (.t 11))
 (.rd (some 50) none (.mkfn (.func 53) [] [(.t 6)])
 (.cl false (some 51) none (.c (.fn (.func 37) [] [])) [(.t 49), (.t 50)]
 (.rd (some 52) none (.un .not (.t 51))
 .done))))
def clause_Assign_r16 : AT := (.rd (some 53) none (.faddr 1 (.t 9))
 (.rd (some 55) none (.mov (.t 11))
 (.rd (some 57) none (.mkfn (.func 54) [] [(.t 6)])
 (.alt (.rd (some 54) none (.load false 1 (.t 53))
 (.cl true (some 56) none (.c (.fn (.func 26) [] [])) [(.t 55)]
 (.cl false (some 58) none (.c (.fn (.func 39) [] [])) [(.t 56), (.t 57)]
 (.wr true (some 59) none (.bsl false false 25 1 [(.lst 0 [] true)] 1 [(0, 1, (.t 58))])
 (.wr false (some 60) none (.app 25 1 24 false (.t 54) (.t 59))
 (.rd (some 61) none (.faddr 1 (.t 9))
 (.wr false none none (.store 1 (.t 61) (.t 60))
 .done))))))) (.cl true (some 56) none (.c (.fn (.func 26) [] [])) [(.t 55)]
 (.alt (.rd (some 54) none (.load false 1 (.t 53))
 (.cl false (some 58) none (.c (.fn (.func 39) [] [])) [(.t 56), (.t 57)]
 (.wr true (some 59) none (.bsl false false 25 1 [(.lst 0 [] true)] 1 [(0, 1, (.t 58))])
 (.wr false (some 60) none (.app 25 1 24 false (.t 54) (.t 59))
 (.rd (some 61) none (.faddr 1 (.t 9))
 (.wr false none none (.store 1 (.t 61) (.t 60))
 .done)))))) (.cl false (some 58) none (.c (.fn (.func 39) [] [])) [(.t 56), (.t 57)]
 (.alt (.rd (some 54) none (.load false 1 (.t 53))
 (.wr true (some 59) none (.bsl false false 25 1 [(.lst 0 [] true)] 1 [(0, 1, (.t 58))])
 (.wr false (some 60) none (.app 25 1 24 false (.t 54) (.t 59))
 (.rd (some 61) none (.faddr 1 (.t 9))
 (.wr false none none (.store 1 (.t 61) (.t 60))
 .done))))) (.wr true (some 59) none (.bsl false false 25 1 [(.lst 0 [] true)] 1 [(0, 1, (.t 58))])
 (.rd (some 54) none (.load false 1 (.t 53))
 (.wr false (some 60) none (.app 25 1 24 false (.t 54) (.t 59))
 (.rd (some 61) none (.faddr 1 (.t 9))
 (.wr false none none (.store 1 (.t 61) (.t 60))
 .done)))))))))))))
def clause_Assign_r17 : AT := (.rd (some 62) none (.bin .add (.t 45) (.c (.int .i64 1)))
 (.rd (some 45) none (.mov (.t 62))
 .done))
def clause_Assign_r18 : AT := (.rd (some 63) none (.load true 2 (.t 9))
 (.wr false none none (.store 2 (.t 4) (.t 63))
 (.rd (some 5) none (.mov (.c (.bool true)))
 .done)))
def clause_Assign : AF := ⟨64, [.cell 4 true 2, .tmp 5],
  (.seq (.reg clause_Assign_r0 [])
  (.seq (.seq (.reg clause_Assign_r1 [12, 13, 14, 15, 16, 17, 18, 19, 20, 21, 22])
  (.cond (.t 23)
  (.seq (.reg clause_Assign_r2 [24])
  .ret)
  .skip))
  (.seq (.reg clause_Assign_r3 [25])
  (.seq (.seq (.reg clause_Assign_r4 [])
  (.block 0 (.loop (.seq (.reg clause_Assign_r5 [])
  (.seq (.cond (.t 29)
  .skip
  (.exit 0))
  (.seq (.block 1 (.seq (.reg clause_Assign_r6 [30, 31])
  (.reg clause_Assign_r7 [32, 33])))
  (.reg clause_Assign_r8 [34])))))))
  (.seq (.seq (.reg clause_Assign_r9 [35, 36])
  (.cond (.t 37)
  (.seq (.reg clause_Assign_r10 [38])
  .ret)
  .skip))
  (.seq (.reg clause_Assign_r11 [39, 40, 41])
  (.seq (.seq (.reg clause_Assign_r12 [42])
  (.block 2 (.loop (.seq (.reg clause_Assign_r13 [])
  (.seq (.cond (.t 46)
  .skip
  (.exit 2))
  (.seq (.block 3 (.seq (.reg clause_Assign_r14 [47, 48])
  (.seq (.reg clause_Assign_r15 [49, 50, 51])
  (.cond (.t 52)
  (.reg clause_Assign_r16 [53, 54, 55, 56, 57, 58, 59, 60, 61])
  .skip))))
  (.reg clause_Assign_r17 [62])))))))
  (.seq (.reg clause_Assign_r18 [63])
  .ret))))))))⟩
abbrev n_clause_Assign : Nat := 33
/- proofmark/proofmarkref05.Right -/
def proofmarkref05_Right_r0 : AT := (.wr false (some 1) none (.box 28 (.t 0))
 (.rd (some 2) none (.mov (.c (.bool false)))
 .done))
def proofmarkref05_Right_r1 : AT := (.rd (some 5) none (.faddr 0 (.t 1))
 (.rd (some 6) none (.load false 1 (.t 5))
 (.rd (some 7) none (.bin .lss (.t 6) (.c (.int .i64 0)))
 (.rd (some 8) none (.mov (.t 7))
 (.rd (some 9) (some (8, false)) (.faddr 0 (.t 1))
 (.rd (some 10) (some (8, false)) (.load false 1 (.t 9))
 (.rd (some 11) (some (8, false)) (.bin .gtr (.t 10) (.c (.int .i64 16777216)))
 (.rd (some 12) none (.pick (.t 8) (.c (.bool true)) (.t 11))
 (.rd (some 13) none (.mov (.t 12))
 (.rd (some 14) (some (13, false)) (.faddr 1 (.t 1))
 (.rd (some 15) (some (13, false)) (.load false 1 (.t 14))
 (.rd (some 16) (some (13, false)) (.len 0 (.t 15))
 (.rd (some 17) (some (13, false)) (.bin .gtr (.t 16) (.c (.int .i64 1048576)))
 (.rd (some 18) none (.pick (.t 13) (.c (.bool true)) (.t 17))
 .done))))))))))))))
def proofmarkref05_Right_r2 : AT := (.rd (some 2) none (.mov (.c (.bool false)))
 .done)
def proofmarkref05_Right_r3 : AT := (.rd (some 3) none (.mov (.c (.int .i64 0)))
 .done)
def proofmarkref05_Right_r4 : AT := (.rd (some 19) none (.mov (.t 3))
 (.rd (some 20) none (.faddr 1 (.t 1))
 (.rd (some 21) none (.load false 1 (.t 20))
 (.rd (some 22) none (.len 0 (.t 21))
 (.rd (some 23) none (.bin .lss (.t 19) (.t 22))
 .done)))))
def proofmarkref05_Right_r5 : AT := (.rd (some 4) none (.mov (.c (.int .i64 0)))
 .done)
def proofmarkref05_Right_r6 : AT := (.rd (some 26) none (.mov (.t 4))
 (.rd (some 27) none (.faddr 1 (.t 1))
 (.rd (some 28) none (.load false 1 (.t 27))
 (.rd (some 29) none (.mov (.t 3))
 (.rd (some 30) none (.iaddr none 1 (.t 28) (.t 29))
 (.rd (some 31) none (.load false 1 (.t 30))
 (.rd (some 32) none (.len 0 (.t 31))
 (.rd (some 33) none (.bin .lss (.t 26) (.t 32))
 .done))))))))
def proofmarkref05_Right_r7 : AT := (.rd (some 36) none (.faddr 1 (.t 1))
 (.rd (some 37) none (.load false 1 (.t 36))
 (.rd (some 38) none (.mov (.t 3))
 (.rd (some 39) none (.iaddr none 1 (.t 37) (.t 38))
 (.rd (some 40) none (.load false 1 (.t 39))
 (.rd (some 41) none (.mov (.t 4))
 (.rd (some 42) none (.iaddr none 1 (.t 40) (.t 41))
 (.rd (some 43) none (.load false 1 (.t 42))
 (.rd (some 44) none (.faddr 0 (.t 1))
 (.rd (some 45) none (.load false 1 (.t 44))
 (.cl false (some 46) none (.c (.fn (.func 55) [] [])) [(.t 43), (.t 45)]
 (.rd (some 47) none (.un .not (.t 46))
 .done))))))))))))
def proofmarkref05_Right_r8 : AT := (.rd (some 2) none (.mov (.c (.bool false)))
 .done)
def proofmarkref05_Right_r9 : AT := (.rd (some 34) none (.mov (.t 4))
 (.rd (some 35) none (.bin .add (.t 34) (.c (.int .i64 1)))
 (.rd (some 4) none (.mov (.t 35))
 .done)))
def proofmarkref05_Right_r10 : AT := (.rd (some 24) none (.mov (.t 3))
 (.rd (some 25) none (.bin .add (.t 24) (.c (.int .i64 1)))
 (.rd (some 3) none (.mov (.t 25))
 .done)))
def proofmarkref05_Right_r11 : AT := (.rd (some 2) none (.mov (.c (.bool true)))
 .done)
def proofmarkref05_Right : AF := ⟨48, [.tmp 2],
  (.seq (.reg proofmarkref05_Right_r0 [])
  (.seq (.seq (.reg proofmarkref05_Right_r1 [5, 6, 7, 8, 9, 10, 11, 12, 13, 14, 15, 16, 17])
  (.cond (.t 18)
  (.seq (.reg proofmarkref05_Right_r2 [])
  .ret)
  .skip))
  (.seq (.seq (.reg proofmarkref05_Right_r3 [])
  (.block 0 (.loop (.seq (.seq (.reg proofmarkref05_Right_r4 [19, 20, 21, 22])
  (.cond (.t 23)
  .skip
  (.exit 0)))
  (.seq (.block 1 (.seq (.reg proofmarkref05_Right_r5 [])
  (.block 2 (.loop (.seq (.seq (.reg proofmarkref05_Right_r6 [26, 27, 28, 29, 30, 31, 32])
  (.cond (.t 33)
  .skip
  (.exit 2)))
  (.seq (.block 3 (.seq (.reg proofmarkref05_Right_r7 [36, 37, 38, 39, 40, 41, 42, 43, 44, 45, 46])
  (.cond (.t 47)
  (.seq (.reg proofmarkref05_Right_r8 [])
  .ret)
  .skip)))
  (.reg proofmarkref05_Right_r9 [34, 35])))))))
  (.reg proofmarkref05_Right_r10 [24, 25]))))))
  (.seq (.reg proofmarkref05_Right_r11 [])
  .ret))))⟩
abbrev n_proofmarkref05_Right : Nat := 34
/- proofmark/proofmarkref07.Follows -/
def proofmarkref07_Follows_r0 : AT := (.wr false (some 2) none (.box 28 (.t 0))
 (.rd (some 4) none (.mov (.c (.bool false)))
 .done))
def proofmarkref07_Follows_r1 : AT := (.rd (some 5) none (.mov (.c (.int .i64 0)))
 .done)
def proofmarkref07_Follows_r2 : AT := (.rd (some 12) none (.mov (.t 5))
 (.rd (some 13) none (.mov (.t 1))
 (.rd (some 14) none (.len 0 (.t 13))
 (.rd (some 15) none (.bin .lss (.t 12) (.t 14))
 .done))))
def proofmarkref07_Follows_r3 : AT := (.rd (some 18) none (.mov (.t 1))
 (.rd (some 19) none (.mov (.t 5))
 (.rd (some 20) none (.iaddr none 1 (.t 18) (.t 19))
 (.rd (some 21) none (.load false 1 (.t 20))
 (.rd (some 22) none (.bin .eql (.t 21) (.c (.int .i64 0)))
 (.rd (some 23) none (.mov (.t 22))
 (.rd (some 24) (some (23, false)) (.mov (.t 1))
 (.rd (some 25) (some (23, false)) (.mov (.t 5))
 (.rd (some 26) (some (23, false)) (.iaddr none 1 (.t 24) (.t 25))
 (.rd (some 27) (some (23, false)) (.load false 1 (.t 26))
 (.rd (some 28) (some (23, false)) (.faddr 0 (.t 2))
 (.rd (some 29) (some (23, false)) (.load false 1 (.t 28))
 (.rd (some 30) (some (23, false)) (.bin .gtr (.t 27) (.t 29))
 (.rd (some 31) none (.pick (.t 23) (.c (.bool true)) (.t 30))
 (.rd (some 32) none (.mov (.t 31))
 (.rd (some 33) (some (32, false)) (.mov (.t 1))
 (.rd (some 34) (some (32, false)) (.mov (.t 5))
 (.rd (some 35) (some (32, false)) (.iaddr none 1 (.t 33) (.t 34))
 (.rd (some 36) (some (32, false)) (.load false 1 (.t 35))
 (.rd (some 37) (some (32, false)) (.faddr 0 (.t 2))
 (.rd (some 38) (some (32, false)) (.load false 1 (.t 37))
 (.rd (some 39) (some (32, false)) (.un .neg (.t 38))
 (.rd (some 40) (some (32, false)) (.bin .lss (.t 36) (.t 39))
 (.rd (some 41) none (.pick (.t 32) (.c (.bool true)) (.t 40))
 .done))))))))))))))))))))))))
def proofmarkref07_Follows_r4 : AT := (.rd (some 4) none (.mov (.c (.bool false)))
 .done)
def proofmarkref07_Follows_r5 : AT := (.rd (some 16) none (.mov (.t 5))
 (.rd (some 17) none (.bin .add (.t 16) (.c (.int .i64 1)))
 (.rd (some 5) none (.mov (.t 17))
 .done)))
def proofmarkref07_Follows_r6 : AT := (.rd (some 43) none (.mov (.t 1))
 (.cl false (some 44) none (.c (.fn (.func 56) [] [])) [(.t 43)]
 (.rd (some 42) none (.mov (.t 44))
 (.rd (some 45) none (.extr (.t 42) 0)
 (.rd (some 46) none (.extr (.t 42) 1)
 (.rd (some 6) none (.mov (.t 45))
 (.rd (some 7) none (.mov (.t 46))
 .done)))))))
def proofmarkref07_Follows_r7 : AT := (.rd (some 47) none (.mov (.t 7))
 (.rd (some 48) none (.un .not (.t 47))
 .done))
def proofmarkref07_Follows_r8 : AT := (.rd (some 4) none (.mov (.c (.bool true)))
 .done)
def proofmarkref07_Follows_r9 : AT := (.rd (some 49) none (.faddr 0 (.t 2))
 (.rd (some 50) none (.load false 1 (.t 49))
 (.rd (some 51) none (.build [(.int .i64 0), (.lst 0 [] true)] [(0, 1, (.t 50))])
 (.wr false (some 8) none (.new 28 [(.int .i64 0), (.lst 0 [] true)])
 (.wr false none none (.store 2 (.t 8) (.t 51))
 .done)))))
def proofmarkref07_Follows_r10 : AT := (.rd (some 52) none (.faddr 1 (.t 8))
 (.rd (some 53) none (.load false 1 (.t 52))
 (.rd (some 54) none (.faddr 1 (.t 2))
 (.rd (some 55) none (.load false 1 (.t 54))
 (.wr false (some 56) none (.app 25 1 24 false (.t 53) (.t 55))
 (.rd (some 57) none (.faddr 1 (.t 8))
 (.wr false none none (.store 1 (.t 57) (.t 56))
 .done)))))))
def proofmarkref07_Follows_r11 : AT := (.rd (some 9) none (.mov (.c (.int .i64 0)))
 .done)
def proofmarkref07_Follows_r12 : AT := (.rd (some 58) none (.mov (.t 9))
 (.rd (some 59) none (.mov (.t 1))
 (.rd (some 60) none (.len 0 (.t 59))
 (.rd (some 61) none (.bin .lss (.t 58) (.t 60))
 .done))))
def proofmarkref07_Follows_r13 : AT := (.rd (some 64) none (.faddr 1 (.t 8))
 (.rd (some 65) none (.load false 1 (.t 64))
 (.rd (some 66) none (.mov (.t 1))
 (.rd (some 67) none (.mov (.t 9))
 (.rd (some 68) none (.iaddr none 1 (.t 66) (.t 67))
 (.rd (some 69) none (.load false 1 (.t 68))
 (.rd (some 70) none (.un .neg (.t 69))
 (.wr true (some 71) none (.bsl false false 3 1 [(.int .i64 0)] 1 [(0, 1, (.t 70))])
 (.wr true (some 72) none (.bsl false false 25 1 [(.lst 0 [] true)] 1 [(0, 1, (.t 71))])
 (.wr false (some 73) none (.app 25 1 24 false (.t 65) (.t 72))
 (.rd (some 74) none (.faddr 1 (.t 8))
 (.wr false none none (.store 1 (.t 74) (.t 73))
 .done))))))))))))
def proofmarkref07_Follows_r14 : AT := (.rd (some 62) none (.mov (.t 9))
 (.rd (some 63) none (.bin .add (.t 62) (.c (.int .i64 1)))
 (.rd (some 9) none (.mov (.t 63))
 .done)))
def proofmarkref07_Follows_r15 : AT := (.rd (some 76) none (.load true 2 (.t 8))
 (.cl false (some 77) none (.c (.fn (.func 57) [] [])) [(.t 76)]
 (.rd (some 75) none (.mov (.t 77))
 (.rd (some 78) none (.extr (.t 75) 0)
 (.rd (some 79) none (.extr (.t 75) 1)
 (.rd (some 10) none (.mov (.t 78))
 (.rd (some 11) none (.mov (.t 79))
 .done)))))))
def proofmarkref07_Follows_r16 : AT := (.rd (some 80) none (.mov (.t 11))
 (.rd (some 81) none (.un .not (.t 80))
 (.rd (some 4) none (.mov (.t 81))
 .done)))
def proofmarkref07_Follows : AF := ⟨82, [.tmp 4],
  (.seq (.reg proofmarkref07_Follows_r0 [])
  (.seq (.seq (.reg proofmarkref07_Follows_r1 [])
  (.block 0 (.loop (.seq (.seq (.reg proofmarkref07_Follows_r2 [12, 13, 14])
  (.cond (.t 15)
  .skip
  (.exit 0)))
  (.seq (.block 1 (.seq (.reg proofmarkref07_Follows_r3 [18, 19, 20, 21, 22, 23, 24, 25, 26, 27, 28, 29, 30, 31, 32, 33, 34, 35, 36, 37, 38, 39, 40])
  (.cond (.t 41)
  (.seq (.reg proofmarkref07_Follows_r4 [])
  .ret)
  .skip)))
  (.reg proofmarkref07_Follows_r5 [16, 17]))))))
  (.seq (.reg proofmarkref07_Follows_r6 [43, 44, 42, 45, 46, 6])
  (.seq (.seq (.reg proofmarkref07_Follows_r7 [47])
  (.cond (.t 48)
  (.seq (.reg proofmarkref07_Follows_r8 [])
  .ret)
  .skip))
  (.seq (.reg proofmarkref07_Follows_r9 [49, 50, 51])
  (.seq (.reg proofmarkref07_Follows_r10 [52, 53, 54, 55, 56, 57])
  (.seq (.seq (.reg proofmarkref07_Follows_r11 [])
  (.block 2 (.loop (.seq (.seq (.reg proofmarkref07_Follows_r12 [58, 59, 60])
  (.cond (.t 61)
  .skip
  (.exit 2)))
  (.seq (.block 3 (.reg proofmarkref07_Follows_r13 [64, 65, 66, 67, 68, 69, 70, 71, 72, 73, 74]))
  (.reg proofmarkref07_Follows_r14 [62, 63]))))))
  (.seq (.reg proofmarkref07_Follows_r15 [76, 77, 75, 78, 79, 10])
  (.seq (.reg proofmarkref07_Follows_r16 [80, 81])
  .ret)))))))))⟩
abbrev n_proofmarkref07_Follows : Nat := 35
/- proofmark/proofmarkkit.SameInts -/
def proofmarkkit_SameInts_r0 : AT := (.rd (some 4) none (.mov (.c (.bool false)))
 .done)
def proofmarkkit_SameInts_r1 : AT := (.rd (some 6) none (.mov (.t 0))
 (.rd (some 7) none (.len 0 (.t 6))
 (.rd (some 8) none (.mov (.t 1))
 (.rd (some 9) none (.len 0 (.t 8))
 (.rd (some 10) none (.bin .neq (.t 7) (.t 9))
 .done)))))
def proofmarkkit_SameInts_r2 : AT := (.rd (some 4) none (.mov (.c (.bool false)))
 .done)
def proofmarkkit_SameInts_r3 : AT := (.rd (some 5) none (.mov (.c (.int .i64 0)))
 .done)
def proofmarkkit_SameInts_r4 : AT := (.rd (some 11) none (.mov (.t 5))
 (.rd (some 12) none (.mov (.t 0))
 (.rd (some 13) none (.len 0 (.t 12))
 (.rd (some 14) none (.bin .lss (.t 11) (.t 13))
 .done))))
def proofmarkkit_SameInts_r5 : AT := (.rd (some 17) none (.mov (.t 0))
 (.rd (some 18) none (.mov (.t 5))
 (.rd (some 19) none (.iaddr none 1 (.t 17) (.t 18))
 (.rd (some 20) none (.load false 1 (.t 19))
 (.rd (some 21) none (.mov (.t 1))
 (.rd (some 22) none (.mov (.t 5))
 (.rd (some 23) none (.iaddr none 1 (.t 21) (.t 22))
 (.rd (some 24) none (.load false 1 (.t 23))
 (.rd (some 25) none (.bin .neq (.t 20) (.t 24))
 .done)))))))))
def proofmarkkit_SameInts_r6 : AT := (.rd (some 4) none (.mov (.c (.bool false)))
 .done)
def proofmarkkit_SameInts_r7 : AT := (.rd (some 15) none (.mov (.t 5))
 (.rd (some 16) none (.bin .add (.t 15) (.c (.int .i64 1)))
 (.rd (some 5) none (.mov (.t 16))
 .done)))
def proofmarkkit_SameInts_r8 : AT := (.rd (some 4) none (.mov (.c (.bool true)))
 .done)
def proofmarkkit_SameInts : AF := ⟨26, [.tmp 4],
  (.seq (.reg proofmarkkit_SameInts_r0 [])
  (.seq (.seq (.reg proofmarkkit_SameInts_r1 [6, 7, 8, 9])
  (.cond (.t 10)
  (.seq (.reg proofmarkkit_SameInts_r2 [])
  .ret)
  .skip))
  (.seq (.seq (.reg proofmarkkit_SameInts_r3 [])
  (.block 0 (.loop (.seq (.seq (.reg proofmarkkit_SameInts_r4 [11, 12, 13])
  (.cond (.t 14)
  .skip
  (.exit 0)))
  (.seq (.block 1 (.seq (.reg proofmarkkit_SameInts_r5 [17, 18, 19, 20, 21, 22, 23, 24])
  (.cond (.t 25)
  (.seq (.reg proofmarkkit_SameInts_r6 [])
  .ret)
  .skip)))
  (.reg proofmarkkit_SameInts_r7 [15, 16]))))))
  (.seq (.reg proofmarkkit_SameInts_r8 [])
  .ret))))⟩
abbrev n_proofmarkkit_SameInts : Nat := 36
/- proofmark/clause.some[int] -/
def clause_some_int_r0 : AT := (.rd (some 4) none (.mov (.c (.bool false)))
 .done)
def clause_some_int_r1 : AT := (.rd (some 5) none (.mov (.t 0))
 (.rd (some 6) none (.mov (.t 1))
 (.cl false (some 7) none (.c (.fn (.func 58) [] [])) [(.t 5), (.t 6)]
 (.rd (some 4) none (.mov (.t 7))
 .done))))
def clause_some_int : AF := ⟨8, [.tmp 4],
  (.seq (.reg clause_some_int_r0 [])
  (.seq (.reg clause_some_int_r1 [5, 6, 7])
  .ret))⟩
abbrev n_clause_some_int : Nat := 37
/- proofmark/clause.Units$1 -/
def clause_Units_S1_r0 : AT := (.rd (some 3) none (.mov (.c (.bool false)))
 .done)
def clause_Units_S1_r1 : AT := (.rd (some 4) none (.load false 1 (.t 1))
 (.rd (some 5) none (.mov (.t 0))
 (.rd (some 6) none (.look false false [.i] (.int .i64 0) (.t 4) (.t 5))
 (.rd (some 7) none (.bin .gtr (.t 6) (.c (.int .i64 0)))
 (.rd (some 3) none (.mov (.t 7))
 .done)))))
def clause_Units_S1 : AF := ⟨8, [.tmp 3],
  (.seq (.reg clause_Units_S1_r0 [])
  (.seq (.reg clause_Units_S1_r1 [4, 5, 6, 7])
  .ret))⟩
abbrev n_clause_Units_S1 : Nat := 38
/- slices.DeleteFunc[[]int,int] -/
def slices_DeleteFunc_int_int_r0 : AT := (.rd (some 4) none (.mov (.c (.lst 0 [] true)))
 .done)
def slices_DeleteFunc_int_int_r1 : AT := (.rd (some 8) none (.mov (.t 0))
 (.rd (some 9) none (.mov (.t 1))
 (.cl false (some 10) none (.c (.fn (.func 59) [] [])) [(.t 8), (.t 9)]
 (.rd (some 5) none (.mov (.t 10))
 .done))))
def slices_DeleteFunc_int_int_r2 : AT := (.rd (some 11) none (.mov (.t 5))
 (.rd (some 12) none (.bin .eql (.t 11) (.c (.int .i64 (-1))))
 .done))
def slices_DeleteFunc_int_int_r3 : AT := (.rd (some 13) none (.mov (.t 0))
 (.rd (some 4) none (.mov (.t 13))
 .done))
def slices_DeleteFunc_int_int_r4 : AT := (.rd (some 14) none (.mov (.t 5))
 (.rd (some 15) none (.bin .add (.t 14) (.c (.int .i64 1)))
 (.rd (some 6) none (.mov (.t 15))
 .done)))
def slices_DeleteFunc_int_int_r5 : AT := (.rd (some 16) none (.mov (.t 6))
 (.rd (some 17) none (.mov (.t 0))
 (.rd (some 18) none (.len 0 (.t 17))
 (.rd (some 19) none (.bin .lss (.t 16) (.t 18))
 .done))))
def slices_DeleteFunc_int_int_r6 : AT := (.rd (some 22) none (.mov (.t 0))
 (.rd (some 23) none (.mov (.t 6))
 (.rd (some 24) none (.iaddr none 1 (.t 22) (.t 23))
 (.rd (some 25) none (.load false 1 (.t 24))
 (.rd (some 7) none (.mov (.t 25))
 .done)))))
def slices_DeleteFunc_int_int_r7 : AT := (.rd (some 26) none (.mov (.t 1))
 (.rd (some 27) none (.mov (.t 7))
 (.cl false (some 28) none (.t 26) [(.t 27)]
 (.rd (some 29) none (.un .not (.t 28))
 .done))))
def slices_DeleteFunc_int_int_r8 : AT := (.rd (some 30) none (.mov (.t 0))
 (.rd (some 31) none (.mov (.t 5))
 (.rd (some 32) none (.mov (.t 7))
 (.rd (some 33) none (.iaddr none 1 (.t 30) (.t 31))
 (.wr false none none (.store 1 (.t 33) (.t 32))
 .done)))))
def slices_DeleteFunc_int_int_r9 : AT := (.rd (some 34) none (.mov (.t 5))
 (.rd (some 35) none (.bin .add (.t 34) (.c (.int .i64 1)))
 (.rd (some 5) none (.mov (.t 35))
 .done)))
def slices_DeleteFunc_int_int_r10 : AT := (.rd (some 20) none (.mov (.t 6))
 (.rd (some 21) none (.bin .add (.t 20) (.c (.int .i64 1)))
 (.rd (some 6) none (.mov (.t 21))
 .done)))
def slices_DeleteFunc_int_int_r11 : AT := (.rd (some 36) none (.mov (.t 0))
 (.rd (some 37) none (.mov (.t 5))
 (.rd (some 38) none (.slc 1 (.t 36) (some (.t 37)) none none)
 (.wr false none none (.clr 1 [(.int .i64 0)] (.t 38))
 .done))))
def slices_DeleteFunc_int_int_r12 : AT := (.rd (some 39) none (.mov (.t 0))
 (.rd (some 40) none (.mov (.t 5))
 (.rd (some 41) none (.slc 1 (.t 39) none (some (.t 40)) none)
 (.rd (some 4) none (.mov (.t 41))
 .done))))
def slices_DeleteFunc_int_int : AF := ⟨42, [.tmp 4],
  (.seq (.reg slices_DeleteFunc_int_int_r0 [])
  (.seq (.reg slices_DeleteFunc_int_int_r1 [8, 9, 10])
  (.seq (.seq (.reg slices_DeleteFunc_int_int_r2 [11])
  (.cond (.t 12)
  (.seq (.reg slices_DeleteFunc_int_int_r3 [13])
  .ret)
  .skip))
  (.seq (.seq (.reg slices_DeleteFunc_int_int_r4 [14, 15])
  (.block 0 (.loop (.seq (.seq (.reg slices_DeleteFunc_int_int_r5 [16, 17, 18])
  (.cond (.t 19)
  .skip
  (.exit 0)))
  (.seq (.block 1 (.seq (.reg slices_DeleteFunc_int_int_r6 [22, 23, 24, 25])
  (.seq (.reg slices_DeleteFunc_int_int_r7 [26, 27, 28])
  (.cond (.t 29)
  (.seq (.reg slices_DeleteFunc_int_int_r8 [30, 31, 32, 33])
  (.reg slices_DeleteFunc_int_int_r9 [34, 35]))
  .skip))))
  (.reg slices_DeleteFunc_int_int_r10 [20, 21]))))))
  (.seq (.reg slices_DeleteFunc_int_int_r11 [36, 37, 38])
  (.seq (.reg slices_DeleteFunc_int_int_r12 [39, 40, 41])
  .ret))))))⟩
abbrev n_slices_DeleteFunc_int_int : Nat := 39
/- proofmark/clause.Units$2 -/
def clause_Units_S2_r0 : AT := (.rd (some 3) none (.mov (.c (.bool false)))
 .done)
def clause_Units_S2_r1 : AT := (.rd (some 4) none (.load false 1 (.t 1))
 (.rd (some 5) none (.mov (.t 0))
 (.rd (some 6) none (.un .neg (.t 5))
 (.rd (some 7) none (.look false false [.i] (.int .i64 0) (.t 4) (.t 6))
 (.rd (some 8) none (.bin .gtr (.t 7) (.c (.int .i64 0)))
 (.rd (some 3) none (.mov (.t 8))
 .done))))))
def clause_Units_S2 : AF := ⟨9, [.tmp 3],
  (.seq (.reg clause_Units_S2_r0 [])
  (.seq (.reg clause_Units_S2_r1 [4, 5, 6, 7, 8])
  .ret))⟩
abbrev n_clause_Units_S2 : Nat := 40
/- proofmark/clause.all[int] -/
def clause_all_int_r0 : AT := (.wr false (some 3) none (.box 51 (.t 1))
 (.rd (some 4) none (.mov (.c (.bool false)))
 .done))
def clause_all_int_r1 : AT := (.rd (some 5) none (.mov (.t 0))
 (.rd (some 6) none (.mkfn (.func 60) [] [(.t 3)])
 (.cl false (some 7) none (.c (.fn (.func 58) [] [])) [(.t 5), (.t 6)]
 (.rd (some 8) none (.un .not (.t 7))
 (.rd (some 4) none (.mov (.t 8))
 .done)))))
def clause_all_int : AF := ⟨9, [.tmp 4],
  (.seq (.reg clause_all_int_r0 [])
  (.seq (.reg clause_all_int_r1 [5, 6, 7, 8])
  .ret))⟩
abbrev n_clause_all_int : Nat := 41
/- proofmark/clause.Units$3 -/
def clause_Units_S3_r0 : AT := (.rd (some 3) none (.mov (.c (.bool false)))
 .done)
def clause_Units_S3_r1 : AT := (.rd (some 4) none (.mov (.t 0))
 (.rd (some 5) none (.load false 1 (.t 1))
 (.rd (some 6) none (.iaddr none 1 (.t 5) (.c (.int .i64 0)))
 (.rd (some 7) none (.load false 1 (.t 6))
 (.rd (some 8) none (.bin .eql (.t 4) (.t 7))
 (.rd (some 3) none (.mov (.t 8))
 .done))))))
def clause_Units_S3 : AF := ⟨9, [.tmp 3],
  (.seq (.reg clause_Units_S3_r0 [])
  (.seq (.reg clause_Units_S3_r1 [4, 5, 6, 7, 8])
  .ret))⟩
abbrev n_clause_Units_S3 : Nat := 42
/- slices.SortFunc[[]int,int] -/
def slices_SortFunc_int_int_r0 : AT := (.rd (some 5) none (.mov (.t 0))
 (.rd (some 6) none (.len 0 (.t 5))
 (.rd (some 4) none (.mov (.t 6))
 .done)))
def slices_SortFunc_int_int_r1 : AT := (.rd (some 7) none (.mov (.t 0))
 (.rd (some 8) none (.mov (.t 4))
 (.rd (some 9) none (.mov (.t 4))
 (.rd (some 10) none (.conv .u64 (.t 9))
 (.cl false (some 11) none (.c (.fn (.func 62) [] [])) [(.t 10)]
 (.rd (some 12) none (.mov (.t 1))
 (.cl false (some 13) none (.c (.fn (.func 61) [] [])) [(.t 7), (.c (.int .i64 0)), (.t 8), (.t 11), (.t 12)]
 .done)))))))
def slices_SortFunc_int_int : AF := ⟨14, [],
  (.seq (.reg slices_SortFunc_int_int_r0 [5, 6])
  (.reg slices_SortFunc_int_int_r1 [7, 8, 9, 10, 11, 12, 13]))⟩
abbrev n_slices_SortFunc_int_int : Nat := 43
abbrev n_clause_Units_S4 : Nat := 44
abbrev n_cmp_Compare_int : Nat := 45
abbrev n_clause_abs : Nat := 46
abbrev n_sat_Solve : Nat := 47
abbrev n_rup_back_S1 : Nat := 48
abbrev n_clause_Clean_S1 : Nat := 49
abbrev n_cmp_Or_int : Nat := 50
/- slices.Compact[[]int,int] -/
def slices_Compact_int_int_r0 : AT := (.rd (some 2) none (.mov (.c (.lst 0 [] true)))
 .done)
def slices_Compact_int_int_r1 : AT := (.rd (some 6) none (.mov (.t 0))
 (.rd (some 7) none (.len 0 (.t 6))
 (.rd (some 8) none (.bin .lss (.t 7) (.c (.int .i64 2)))
 .done)))
def slices_Compact_int_int_r2 : AT := (.rd (some 9) none (.mov (.t 0))
 (.rd (some 2) none (.mov (.t 9))
 .done))
def slices_Compact_int_int_r3 : AT := (.rd (some 3) none (.mov (.c (.int .i64 1)))
 .done)
def slices_Compact_int_int_r4 : AT := (.rd (some 10) none (.mov (.t 3))
 (.rd (some 11) none (.mov (.t 0))
 (.rd (some 12) none (.len 0 (.t 11))
 (.rd (some 13) none (.bin .lss (.t 10) (.t 12))
 .done))))
def slices_Compact_int_int_r5 : AT := (.rd (some 16) none (.mov (.t 0))
 (.rd (some 17) none (.mov (.t 3))
 (.rd (some 18) none (.iaddr none 1 (.t 16) (.t 17))
 (.rd (some 19) none (.load false 1 (.t 18))
 (.rd (some 20) none (.mov (.t 0))
 (.rd (some 21) none (.mov (.t 3))
 (.rd (some 22) none (.bin .sub (.t 21) (.c (.int .i64 1)))
 (.rd (some 23) none (.iaddr none 1 (.t 20) (.t 22))
 (.rd (some 24) none (.load false 1 (.t 23))
 (.rd (some 25) none (.bin .eql (.t 19) (.t 24))
 .done))))))))))
def slices_Compact_int_int_r6 : AT := (.rd (some 26) none (.mov (.t 0))
 (.rd (some 27) none (.mov (.t 3))
 (.rd (some 28) none (.slc 1 (.t 26) (some (.t 27)) none none)
 (.rd (some 4) none (.mov (.t 28))
 .done))))
def slices_Compact_int_int_r7 : AT := (.rd (some 5) none (.mov (.c (.int .i64 1)))
 .done)
def slices_Compact_int_int_r8 : AT := (.rd (some 29) none (.mov (.t 5))
 (.rd (some 30) none (.mov (.t 4))
 (.rd (some 31) none (.len 0 (.t 30))
 (.rd (some 32) none (.bin .lss (.t 29) (.t 31))
 .done))))
def slices_Compact_int_int_r9 : AT := (.rd (some 35) none (.mov (.t 4))
 (.rd (some 36) none (.mov (.t 5))
 (.rd (some 37) none (.iaddr none 1 (.t 35) (.t 36))
 (.rd (some 38) none (.load false 1 (.t 37))
 (.rd (some 39) none (.mov (.t 4))
 (.rd (some 40) none (.mov (.t 5))
 (.rd (some 41) none (.bin .sub (.t 40) (.c (.int .i64 1)))
 (.rd (some 42) none (.iaddr none 1 (.t 39) (.t 41))
 (.rd (some 43) none (.load false 1 (.t 42))
 (.rd (some 44) none (.bin .neq (.t 38) (.t 43))
 .done))))))))))
def slices_Compact_int_int_r10 : AT := (.rd (some 45) none (.mov (.t 0))
 (.rd (some 46) none (.mov (.t 3))
 (.rd (some 47) none (.mov (.t 4))
 (.rd (some 48) none (.mov (.t 5))
 (.rd (some 49) none (.iaddr none 1 (.t 47) (.t 48))
 (.rd (some 50) none (.load false 1 (.t 49))
 (.rd (some 51) none (.iaddr none 1 (.t 45) (.t 46))
 (.wr false none none (.store 1 (.t 51) (.t 50))
 .done))))))))
def slices_Compact_int_int_r11 : AT := (.rd (some 52) none (.mov (.t 3))
 (.rd (some 53) none (.bin .add (.t 52) (.c (.int .i64 1)))
 (.rd (some 3) none (.mov (.t 53))
 .done)))
def slices_Compact_int_int_r12 : AT := (.rd (some 33) none (.mov (.t 5))
 (.rd (some 34) none (.bin .add (.t 33) (.c (.int .i64 1)))
 (.rd (some 5) none (.mov (.t 34))
 .done)))
def slices_Compact_int_int_r13 : AT := (.rd (some 54) none (.mov (.t 0))
 (.rd (some 55) none (.mov (.t 3))
 (.rd (some 56) none (.slc 1 (.t 54) (some (.t 55)) none none)
 (.wr false none none (.clr 1 [(.int .i64 0)] (.t 56))
 .done))))
def slices_Compact_int_int_r14 : AT := (.rd (some 57) none (.mov (.t 0))
 (.rd (some 58) none (.mov (.t 3))
 (.rd (some 59) none (.slc 1 (.t 57) none (some (.t 58)) none)
 (.rd (some 2) none (.mov (.t 59))
 .done))))
def slices_Compact_int_int_r15 : AT := (.rd (some 14) none (.mov (.t 3))
 (.rd (some 15) none (.bin .add (.t 14) (.c (.int .i64 1)))
 (.rd (some 3) none (.mov (.t 15))
 .done)))
def slices_Compact_int_int_r16 : AT := (.rd (some 60) none (.mov (.t 0))
 (.rd (some 2) none (.mov (.t 60))
 .done))
def slices_Compact_int_int : AF := ⟨61, [.tmp 2],
  (.seq (.reg slices_Compact_int_int_r0 [])
  (.seq (.seq (.reg slices_Compact_int_int_r1 [6, 7])
  (.cond (.t 8)
  (.seq (.reg slices_Compact_int_int_r2 [9])
  .ret)
  .skip))
  (.seq (.seq (.reg slices_Compact_int_int_r3 [])
  (.block 0 (.loop (.seq (.seq (.reg slices_Compact_int_int_r4 [10, 11, 12])
  (.cond (.t 13)
  .skip
  (.exit 0)))
  (.seq (.block 1 (.seq (.reg slices_Compact_int_int_r5 [16, 17, 18, 19, 20, 21, 22, 23, 24])
  (.cond (.t 25)
  (.seq (.reg slices_Compact_int_int_r6 [26, 27, 28])
  (.seq (.seq (.reg slices_Compact_int_int_r7 [])
  (.block 2 (.loop (.seq (.seq (.reg slices_Compact_int_int_r8 [29, 30, 31])
  (.cond (.t 32)
  .skip
  (.exit 2)))
  (.seq (.block 3 (.seq (.reg slices_Compact_int_int_r9 [35, 36, 37, 38, 39, 40, 41, 42, 43])
  (.cond (.t 44)
  (.seq (.reg slices_Compact_int_int_r10 [45, 46, 47, 48, 49, 50, 51])
  (.reg slices_Compact_int_int_r11 [52, 53]))
  .skip)))
  (.reg slices_Compact_int_int_r12 [33, 34]))))))
  (.seq (.reg slices_Compact_int_int_r13 [54, 55, 56])
  (.seq (.reg slices_Compact_int_int_r14 [57, 58, 59])
  .ret))))
  .skip)))
  (.reg slices_Compact_int_int_r15 [14, 15]))))))
  (.seq (.reg slices_Compact_int_int_r16 [60])
  .ret))))⟩
abbrev n_slices_Compact_int_int : Nat := 51
/- proofmark/clause.Assign$1 -/
def clause_Assign_S1_r0 : AT := (.rd (some 3) none (.mov (.c (.bool false)))
 .done)
def clause_Assign_S1_r1 : AT := (.rd (some 4) none (.load false 1 (.t 1))
 (.rd (some 5) none (.mov (.t 0))
 (.rd (some 6) none (.un .neg (.t 5))
 (.rd (some 7) none (.look false false [.i] (.int .i64 0) (.t 4) (.t 6))
 (.rd (some 8) none (.bin .gtr (.t 7) (.c (.int .i64 0)))
 (.rd (some 3) none (.mov (.t 8))
 .done))))))
def clause_Assign_S1 : AF := ⟨9, [.tmp 3],
  (.seq (.reg clause_Assign_S1_r0 [])
  (.seq (.reg clause_Assign_S1_r1 [4, 5, 6, 7, 8])
  .ret))⟩
abbrev n_clause_Assign_S1 : Nat := 52
/- proofmark/clause.Assign$2 -/
def clause_Assign_S2_r0 : AT := (.rd (some 3) none (.mov (.c (.bool false)))
 .done)
def clause_Assign_S2_r1 : AT := (.rd (some 4) none (.load false 1 (.t 1))
 (.rd (some 5) none (.mov (.t 0))
 (.rd (some 6) none (.look false false [.i] (.int .i64 0) (.t 4) (.t 5))
 (.rd (some 7) none (.bin .gtr (.t 6) (.c (.int .i64 0)))
 (.rd (some 3) none (.mov (.t 7))
 .done)))))
def clause_Assign_S2 : AF := ⟨8, [.tmp 3],
  (.seq (.reg clause_Assign_S2_r0 [])
  (.seq (.reg clause_Assign_S2_r1 [4, 5, 6, 7])
  .ret))⟩
abbrev n_clause_Assign_S2 : Nat := 53
/- proofmark/clause.Assign$3 -/
def clause_Assign_S3_r0 : AT := (.rd (some 3) none (.mov (.c (.bool false)))
 .done)
def clause_Assign_S3_r1 : AT := (.rd (some 4) none (.load false 1 (.t 1))
 (.rd (some 5) none (.mov (.t 0))
 (.rd (some 6) none (.un .neg (.t 5))
 (.rd (some 7) none (.look false false [.i] (.int .i64 0) (.t 4) (.t 6))
 (.rd (some 8) none (.bin .gtr (.t 7) (.c (.int .i64 0)))
 (.rd (some 3) none (.mov (.t 8))
 .done))))))
def clause_Assign_S3 : AF := ⟨9, [.tmp 3],
  (.seq (.reg clause_Assign_S3_r0 [])
  (.seq (.reg clause_Assign_S3_r1 [4, 5, 6, 7, 8])
  .ret))⟩
abbrev n_clause_Assign_S3 : Nat := 54
/- proofmark/proofmarkref05.lit -/
def proofmarkref05_lit_r0 : AT := (.rd (some 4) none (.mov (.c (.bool false)))
 .done)
def proofmarkref05_lit_r1 : AT := (.rd (some 5) none (.mov (.t 0))
 (.rd (some 6) none (.bin .neq (.t 5) (.c (.int .i64 0)))
 (.rd (some 7) none (.mov (.t 6))
 (.rd (some 8) (some (7, true)) (.mov (.t 0))
 (.rd (some 9) (some (7, true)) (.mov (.t 1))
 (.rd (some 10) (some (7, true)) (.un .neg (.t 9))
 (.rd (some 11) (some (7, true)) (.bin .geq (.t 8) (.t 10))
 (.rd (some 12) none (.pick (.t 7) (.t 11) (.c (.bool false)))
 (.rd (some 13) none (.mov (.t 12))
 (.rd (some 14) (some (13, true)) (.mov (.t 0))
 (.rd (some 15) (some (13, true)) (.mov (.t 1))
 (.rd (some 16) (some (13, true)) (.bin .leq (.t 14) (.t 15))
 (.rd (some 17) none (.pick (.t 13) (.t 16) (.c (.bool false)))
 (.rd (some 4) none (.mov (.t 17))
 .done))))))))))))))
def proofmarkref05_lit : AF := ⟨18, [.tmp 4],
  (.seq (.reg proofmarkref05_lit_r0 [])
  (.seq (.reg proofmarkref05_lit_r1 [5, 6, 7, 8, 9, 10, 11, 12, 13, 14, 15, 16, 17])
  .ret))⟩
abbrev n_proofmarkref05_lit : Nat := 55
/- proofmark/proofmarkref05.Clean -/
def proofmarkref05_Clean_r0 : AT := (.rd (some 2) none (.mov (.c (.lst 0 [] true)))
 (.rd (some 3) none (.mov (.c (.bool false)))
 .done))
def proofmarkref05_Clean_r1 : AT := (.rd (some 4) none (.mov (.c (.lst 0 [] true)))
 .done)
def proofmarkref05_Clean_r2 : AT := (.rd (some 5) none (.mov (.c (.int .i64 0)))
 .done)
def proofmarkref05_Clean_r3 : AT := (.rd (some 7) none (.mov (.t 5))
 (.rd (some 8) none (.mov (.t 0))
 (.rd (some 9) none (.len 0 (.t 8))
 (.rd (some 10) none (.bin .lss (.t 7) (.t 9))
 .done))))
def proofmarkref05_Clean_r4 : AT := (.rd (some 13) none (.mov (.t 0))
 (.rd (some 14) none (.mov (.t 5))
 (.rd (some 15) none (.iaddr none 1 (.t 13) (.t 14))
 (.rd (some 16) none (.load false 1 (.t 15))
 (.rd (some 17) none (.bin .eql (.t 16) (.c (.int .i64 0)))
 (.rd (some 18) none (.mov (.t 17))
 (.rd (some 19) (some (18, false)) (.mov (.t 0))
 (.rd (some 20) (some (18, false)) (.mov (.t 0))
 (.rd (some 21) (some (18, false)) (.mov (.t 5))
 (.rd (some 22) (some (18, false)) (.iaddr none 1 (.t 20) (.t 21))
 (.rd (some 23) (some (18, false)) (.load false 1 (.t 22))
 (.rd (some 24) (some (18, false)) (.un .neg (.t 23))
 (.cl false (some 25) (some (18, false)) (.c (.fn (.func 66) [] [])) [(.t 19), (.t 24)]
 (.rd (some 26) none (.pick (.t 18) (.c (.bool true)) (.t 25))
 .done))))))))))))))
def proofmarkref05_Clean_r5 : AT := (.rd (some 2) none (.mov (.c (.lst 0 [] true)))
 (.rd (some 3) none (.mov (.c (.bool false)))
 .done))
def proofmarkref05_Clean_r6 : AT := (.rd (some 27) none (.mov (.t 4))
 (.rd (some 28) none (.mov (.t 0))
 (.rd (some 29) none (.mov (.t 5))
 (.rd (some 30) none (.iaddr none 1 (.t 28) (.t 29))
 (.rd (some 31) none (.load false 1 (.t 30))
 (.cl false (some 32) none (.c (.fn (.func 66) [] [])) [(.t 27), (.t 31)]
 .done))))))
def proofmarkref05_Clean_r7 : AT := (.rd (some 33) none (.mov (.t 4))
 (.rd (some 34) none (.mov (.t 0))
 (.rd (some 35) none (.mov (.t 5))
 (.rd (some 36) none (.iaddr none 1 (.t 34) (.t 35))
 (.rd (some 37) none (.load false 1 (.t 36))
 (.wr false (some 38) none (.bsl false false 3 1 [(.int .i64 0)] 1 [(0, 1, (.t 37))])
 (.wr false (some 39) none (.app 3 1 8 false (.t 33) (.t 38))
 (.rd (some 4) none (.mov (.t 39))
 .done))))))))
def proofmarkref05_Clean_r8 : AT := (.rd (some 40) none (.mov (.t 4))
 (.rd (some 41) none (.len 0 (.t 40))
 (.rd (some 42) none (.bin .sub (.t 41) (.c (.int .i64 1)))
 (.rd (some 6) none (.mov (.t 42))
 .done))))
def proofmarkref05_Clean_r9 : AT := (.rd (some 43) none (.mov (.t 6))
 (.rd (some 44) none (.bin .gtr (.t 43) (.c (.int .i64 0)))
 (.rd (some 45) none (.mov (.t 44))
 (.rd (some 46) (some (45, true)) (.mov (.t 4))
 (.rd (some 47) (some (45, true)) (.mov (.t 6))
 (.rd (some 48) (some (45, true)) (.iaddr none 1 (.t 46) (.t 47))
 (.rd (some 49) (some (45, true)) (.load false 1 (.t 48))
 (.rd (some 50) (some (45, true)) (.mov (.t 4))
 (.rd (some 51) (some (45, true)) (.mov (.t 6))
 (.rd (some 52) (some (45, true)) (.bin .sub (.t 51) (.c (.int .i64 1)))
 (.rd (some 53) (some (45, true)) (.iaddr none 1 (.t 50) (.t 52))
 (.rd (some 54) (some (45, true)) (.load false 1 (.t 53))
 (.cl false (some 55) (some (45, true)) (.c (.fn (.func 67) [] [])) [(.t 49), (.t 54)]
 (.rd (some 56) none (.pick (.t 45) (.t 55) (.c (.bool false)))
 .done))))))))))))))
def proofmarkref05_Clean_r10 : AT := (.rd (some 59) none (.mov (.t 4))
 (.rd (some 60) none (.mov (.t 6))
 (.rd (some 61) none (.mov (.t 4))
 (.rd (some 62) none (.mov (.t 6))
 (.rd (some 63) none (.bin .sub (.t 62) (.c (.int .i64 1)))
 (.rd (some 64) none (.mov (.t 4))
 (.rd (some 65) none (.mov (.t 6))
 (.rd (some 66) none (.bin .sub (.t 65) (.c (.int .i64 1)))
 (.rd (some 67) none (.iaddr none 1 (.t 64) (.t 66))
 (.rd (some 68) none (.load false 1 (.t 67))
 (.rd (some 69) none (.mov (.t 4))
 (.rd (some 70) none (.mov (.t 6))
 (.rd (some 71) none (.iaddr none 1 (.t 69) (.t 70))
 (.rd (some 72) none (.load false 1 (.t 71))
 (.rd (some 73) none (.iaddr none 1 (.t 59) (.t 60))
 (.wr false none none (.store 1 (.t 73) (.t 68))
 (.rd (some 74) none (.iaddr none 1 (.t 61) (.t 63))
 (.wr false none none (.store 1 (.t 74) (.t 72))
 .done))))))))))))))))))
def proofmarkref05_Clean_r11 : AT := (.rd (some 57) none (.mov (.t 6))
 (.rd (some 58) none (.bin .sub (.t 57) (.c (.int .i64 1)))
 (.rd (some 6) none (.mov (.t 58))
 .done)))
def proofmarkref05_Clean_r12 : AT := (.rd (some 11) none (.mov (.t 5))
 (.rd (some 12) none (.bin .add (.t 11) (.c (.int .i64 1)))
 (.rd (some 5) none (.mov (.t 12))
 .done)))
def proofmarkref05_Clean_r13 : AT := (.rd (some 75) none (.mov (.t 4))
 (.rd (some 2) none (.mov (.t 75))
 (.rd (some 3) none (.mov (.c (.bool true)))
 .done)))
def proofmarkref05_Clean : AF := ⟨76, [.tmp 2, .tmp 3],
  (.seq (.reg proofmarkref05_Clean_r0 [])
  (.seq (.reg proofmarkref05_Clean_r1 [])
  (.seq (.seq (.reg proofmarkref05_Clean_r2 [])
  (.block 0 (.loop (.seq (.seq (.reg proofmarkref05_Clean_r3 [7, 8, 9])
  (.cond (.t 10)
  .skip
  (.exit 0)))
  (.seq (.block 1 (.seq (.seq (.reg proofmarkref05_Clean_r4 [13, 14, 15, 16, 17, 18, 19, 20, 21, 22, 23, 24, 25])
  (.cond (.t 26)
  (.seq (.reg proofmarkref05_Clean_r5 [])
  .ret)
  .skip))
  (.seq (.seq (.reg proofmarkref05_Clean_r6 [27, 28, 29, 30, 31])
  (.cond (.t 32)
  (.exit 1)
  .skip))
  (.seq (.reg proofmarkref05_Clean_r7 [33, 34, 35, 36, 37, 38, 39])
  (.seq (.reg proofmarkref05_Clean_r8 [40, 41, 42])
  (.block 2 (.loop (.seq (.seq (.reg proofmarkref05_Clean_r9 [43, 44, 45, 46, 47, 48, 49, 50, 51, 52, 53, 54, 55])
  (.cond (.t 56)
  .skip
  (.exit 2)))
  (.seq (.block 3 (.reg proofmarkref05_Clean_r10 [59, 60, 61, 62, 63, 64, 65, 66, 67, 68, 69, 70, 71, 72, 73, 74]))
  (.reg proofmarkref05_Clean_r11 [57, 58]))))))))))
  (.reg proofmarkref05_Clean_r12 [11, 12]))))))
  (.seq (.reg proofmarkref05_Clean_r13 [75])
  .ret))))⟩
abbrev n_proofmarkref05_Clean : Nat := 56
/- proofmark/proofmarkref05.Units -/
def proofmarkref05_Units_r0 : AT := (.wr false (some 1) none (.box 28 (.t 0))
 (.rd (some 2) none (.mov (.c (.lst 0 [] true)))
 (.rd (some 3) none (.mov (.c (.bool false)))
 .done)))
def proofmarkref05_Units_r1 : AT := (.rd (some 13) none (.load true 2 (.t 1))
 (.cl false (some 14) none (.c (.fn (.func 34) [] [])) [(.t 13)]
 (.rd (some 15) none (.un .not (.t 14))
 .done)))
def proofmarkref05_Units_r2 : AT := (.rd (some 2) none (.mov (.c (.lst 0 [] true)))
 (.rd (some 3) none (.mov (.c (.bool false)))
 .done))
def proofmarkref05_Units_r3 : AT := (.rd (some 4) none (.mov (.c (.lst 0 [] true)))
 .done)
def proofmarkref05_Units_r4 : AT := (.rd (some 5) none (.mov (.c (.bool true)))
 .done)
def proofmarkref05_Units_r5 : AT := (.rd (some 16) none (.mov (.t 5))
 .done)
def proofmarkref05_Units_r6 : AT := (.rd (some 5) none (.mov (.c (.bool false)))
 .done)
def proofmarkref05_Units_r7 : AT := (.rd (some 6) none (.mov (.c (.int .i64 0)))
 .done)
def proofmarkref05_Units_r8 : AT := (.rd (some 17) none (.mov (.t 6))
 (.rd (some 18) none (.faddr 1 (.t 1))
 (.rd (some 19) none (.load false 1 (.t 18))
 (.rd (some 20) none (.len 0 (.t 19))
 (.rd (some 21) none (.bin .lss (.t 17) (.t 20))
 .done)))))
def proofmarkref05_Units_r9 : AT := (.rd (some 7) none (.mov (.c (.bool false)))
 .done)
def proofmarkref05_Units_r10 : AT := (.rd (some 8) none (.mov (.c (.lst 0 [] true)))
 .done)
def proofmarkref05_Units_r11 : AT := (.rd (some 9) none (.mov (.c (.int .i64 0)))
 .done)
def proofmarkref05_Units_r12 : AT := (.rd (some 24) none (.mov (.t 9))
 (.rd (some 25) none (.faddr 1 (.t 1))
 (.rd (some 26) none (.load false 1 (.t 25))
 (.rd (some 27) none (.mov (.t 6))
 (.rd (some 28) none (.iaddr none 1 (.t 26) (.t 27))
 (.rd (some 29) none (.load false 1 (.t 28))
 (.rd (some 30) none (.len 0 (.t 29))
 (.rd (some 31) none (.bin .lss (.t 24) (.t 30))
 .done))))))))
def proofmarkref05_Units_r13 : AT := (.rd (some 34) none (.faddr 1 (.t 1))
 (.rd (some 35) none (.load false 1 (.t 34))
 (.rd (some 36) none (.mov (.t 6))
 (.rd (some 37) none (.iaddr none 1 (.t 35) (.t 36))
 (.rd (some 38) none (.load false 1 (.t 37))
 (.rd (some 39) none (.mov (.t 9))
 (.rd (some 40) none (.iaddr none 1 (.t 38) (.t 39))
 (.rd (some 41) none (.load false 1 (.t 40))
 (.rd (some 10) none (.mov (.t 41))
 .done)))))))))
def proofmarkref05_Units_r14 : AT := (.rd (some 42) none (.mov (.t 7))
 (.rd (some 43) none (.mov (.t 42))
 (.rd (some 44) (some (43, false)) (.mov (.t 4))
 (.rd (some 45) (some (43, false)) (.mov (.t 10))
 (.cl false (some 46) (some (43, false)) (.c (.fn (.func 66) [] [])) [(.t 44), (.t 45)]
 (.rd (some 47) none (.pick (.t 43) (.c (.bool true)) (.t 46))
 (.rd (some 7) none (.mov (.t 47))
 .done)))))))
def proofmarkref05_Units_r15 : AT := (.rd (some 48) none (.mov (.t 4))
 (.rd (some 49) none (.mov (.t 10))
 (.rd (some 50) none (.un .neg (.t 49))
 (.cl false (some 51) none (.c (.fn (.func 66) [] [])) [(.t 48), (.t 50)]
 (.rd (some 52) none (.un .not (.t 51))
 (.rd (some 53) none (.mov (.t 52))
 (.rd (some 54) (some (53, true)) (.mov (.t 4))
 (.rd (some 55) (some (53, true)) (.mov (.t 10))
 (.cl false (some 56) (some (53, true)) (.c (.fn (.func 66) [] [])) [(.t 54), (.t 55)]
 (.rd (some 57) (some (53, true)) (.un .not (.t 56))
 (.rd (some 58) none (.pick (.t 53) (.t 57) (.c (.bool false)))
 (.rd (some 59) none (.mov (.t 58))
 (.rd (some 60) (some (59, true)) (.mov (.t 8))
 (.rd (some 61) (some (59, true)) (.mov (.t 10))
 (.cl false (some 62) (some (59, true)) (.c (.fn (.func 66) [] [])) [(.t 60), (.t 61)]
 (.rd (some 63) (some (59, true)) (.un .not (.t 62))
 (.rd (some 64) none (.pick (.t 59) (.t 63) (.c (.bool false)))
 .done)))))))))))))))))
def proofmarkref05_Units_r16 : AT := (.rd (some 65) none (.mov (.t 8))
 (.rd (some 66) none (.mov (.t 10))
 (.wr false (some 67) none (.bsl false false 3 1 [(.int .i64 0)] 1 [(0, 1, (.t 66))])
 (.wr false (some 68) none (.app 3 1 8 false (.t 65) (.t 67))
 (.rd (some 8) none (.mov (.t 68))
 .done)))))
def proofmarkref05_Units_r17 : AT := (.rd (some 32) none (.mov (.t 9))
 (.rd (some 33) none (.bin .add (.t 32) (.c (.int .i64 1)))
 (.rd (some 9) none (.mov (.t 33))
 .done)))
def proofmarkref05_Units_r18 : AT := (.rd (some 69) none (.mov (.t 7))
 (.rd (some 70) none (.un .not (.t 69))
 (.rd (some 71) none (.mov (.t 70))
 (.rd (some 72) (some (71, true)) (.mov (.t 8))
 (.rd (some 73) (some (71, true)) (.len 0 (.t 72))
 (.rd (some 74) (some (71, true)) (.bin .eql (.t 73) (.c (.int .i64 0)))
 (.rd (some 75) none (.pick (.t 71) (.t 74) (.c (.bool false)))
 .done)))))))
def proofmarkref05_Units_r19 : AT := (.rd (some 2) none (.mov (.c (.lst 0 [] true)))
 (.rd (some 3) none (.mov (.c (.bool false)))
 .done))
def proofmarkref05_Units_r20 : AT := (.rd (some 76) none (.mov (.t 7))
 (.rd (some 77) none (.un .not (.t 76))
 (.rd (some 78) none (.mov (.t 77))
 (.rd (some 79) (some (78, true)) (.mov (.t 8))
 (.rd (some 80) (some (78, true)) (.len 0 (.t 79))
 (.rd (some 81) (some (78, true)) (.bin .eql (.t 80) (.c (.int .i64 1)))
 (.rd (some 82) none (.pick (.t 78) (.t 81) (.c (.bool false)))
 .done)))))))
def proofmarkref05_Units_r21 : AT := (.rd (some 83) none (.mov (.t 4))
 (.rd (some 84) none (.mov (.t 8))
 (.rd (some 85) none (.iaddr none 1 (.t 84) (.c (.int .i64 0)))
 (.rd (some 86) none (.load false 1 (.t 85))
 (.wr false (some 87) none (.bsl false false 3 1 [(.int .i64 0)] 1 [(0, 1, (.t 86))])
 (.wr false (some 88) none (.app 3 1 8 false (.t 83) (.t 87))
 (.rd (some 4) none (.mov (.t 88))
 .done)))))))
def proofmarkref05_Units_r22 : AT := (.rd (some 5) none (.mov (.c (.bool true)))
 .done)
def proofmarkref05_Units_r23 : AT := (.rd (some 22) none (.mov (.t 6))
 (.rd (some 23) none (.bin .add (.t 22) (.c (.int .i64 1)))
 (.rd (some 6) none (.mov (.t 23))
 .done)))
def proofmarkref05_Units_r24 : AT := (.rd (some 11) none (.mov (.c (.int .i64 0)))
 .done)
def proofmarkref05_Units_r25 : AT := (.rd (some 89) none (.mov (.t 11))
 (.rd (some 90) none (.mov (.t 4))
 (.rd (some 91) none (.len 0 (.t 90))
 (.rd (some 92) none (.bin .lss (.t 89) (.t 91))
 .done))))
def proofmarkref05_Units_r26 : AT := (.rd (some 95) none (.mov (.t 11))
 (.rd (some 12) none (.mov (.t 95))
 .done))
def proofmarkref05_Units_r27 : AT := (.rd (some 96) none (.mov (.t 12))
 (.rd (some 97) none (.bin .gtr (.t 96) (.c (.int .i64 0)))
 (.rd (some 98) none (.mov (.t 97))
 (.rd (some 99) (some (98, true)) (.mov (.t 4))
 (.rd (some 100) (some (98, true)) (.mov (.t 12))
 (.rd (some 101) (some (98, true)) (.iaddr none 1 (.t 99) (.t 100))
 (.rd (some 102) (some (98, true)) (.load false 1 (.t 101))
 (.rd (some 103) (some (98, true)) (.mov (.t 4))
 (.rd (some 104) (some (98, true)) (.mov (.t 12))
 (.rd (some 105) (some (98, true)) (.bin .sub (.t 104) (.c (.int .i64 1)))
 (.rd (some 106) (some (98, true)) (.iaddr none 1 (.t 103) (.t 105))
 (.rd (some 107) (some (98, true)) (.load false 1 (.t 106))
 (.cl false (some 108) (some (98, true)) (.c (.fn (.func 67) [] [])) [(.t 102), (.t 107)]
 (.rd (some 109) none (.pick (.t 98) (.t 108) (.c (.bool false)))
 .done))))))))))))))
def proofmarkref05_Units_r28 : AT := (.rd (some 112) none (.mov (.t 4))
 (.rd (some 113) none (.mov (.t 12))
 (.rd (some 114) none (.mov (.t 4))
 (.rd (some 115) none (.mov (.t 12))
 (.rd (some 116) none (.bin .sub (.t 115) (.c (.int .i64 1)))
 (.rd (some 117) none (.mov (.t 4))
 (.rd (some 118) none (.mov (.t 12))
 (.rd (some 119) none (.bin .sub (.t 118) (.c (.int .i64 1)))
 (.rd (some 120) none (.iaddr none 1 (.t 117) (.t 119))
 (.rd (some 121) none (.load false 1 (.t 120))
 (.rd (some 122) none (.mov (.t 4))
 (.rd (some 123) none (.mov (.t 12))
 (.rd (some 124) none (.iaddr none 1 (.t 122) (.t 123))
 (.rd (some 125) none (.load false 1 (.t 124))
 (.rd (some 126) none (.iaddr none 1 (.t 112) (.t 113))
 (.wr false none none (.store 1 (.t 126) (.t 121))
 (.rd (some 127) none (.iaddr none 1 (.t 114) (.t 116))
 (.wr false none none (.store 1 (.t 127) (.t 125))
 .done))))))))))))))))))
def proofmarkref05_Units_r29 : AT := (.rd (some 110) none (.mov (.t 12))
 (.rd (some 111) none (.bin .sub (.t 110) (.c (.int .i64 1)))
 (.rd (some 12) none (.mov (.t 111))
 .done)))
def proofmarkref05_Units_r30 : AT := (.rd (some 93) none (.mov (.t 11))
 (.rd (some 94) none (.bin .add (.t 93) (.c (.int .i64 1)))
 (.rd (some 11) none (.mov (.t 94))
 .done)))
def proofmarkref05_Units_r31 : AT := (.rd (some 128) none (.mov (.t 4))
 (.rd (some 2) none (.mov (.t 128))
 (.rd (some 3) none (.mov (.c (.bool true)))
 .done)))
def proofmarkref05_Units : AF := ⟨129, [.tmp 2, .tmp 3],
  (.seq (.reg proofmarkref05_Units_r0 [])
  (.seq (.seq (.reg proofmarkref05_Units_r1 [13, 14])
  (.cond (.t 15)
  (.seq (.reg proofmarkref05_Units_r2 [])
  .ret)
  .skip))
  (.seq (.reg proofmarkref05_Units_r3 [])
  (.seq (.seq (.reg proofmarkref05_Units_r4 [])
  (.block 0 (.loop (.seq (.seq (.reg proofmarkref05_Units_r5 [])
  (.cond (.t 16)
  .skip
  (.exit 0)))
  (.block 1 (.seq (.reg proofmarkref05_Units_r6 [])
  (.seq (.reg proofmarkref05_Units_r7 [])
  (.block 2 (.loop (.seq (.seq (.reg proofmarkref05_Units_r8 [17, 18, 19, 20])
  (.cond (.t 21)
  .skip
  (.exit 2)))
  (.seq (.block 3 (.seq (.reg proofmarkref05_Units_r9 [])
  (.seq (.reg proofmarkref05_Units_r10 [])
  (.seq (.seq (.reg proofmarkref05_Units_r11 [])
  (.block 4 (.loop (.seq (.seq (.reg proofmarkref05_Units_r12 [24, 25, 26, 27, 28, 29, 30])
  (.cond (.t 31)
  .skip
  (.exit 4)))
  (.seq (.block 5 (.seq (.reg proofmarkref05_Units_r13 [34, 35, 36, 37, 38, 39, 40, 41])
  (.seq (.reg proofmarkref05_Units_r14 [42, 43, 44, 45, 46, 47])
  (.seq (.reg proofmarkref05_Units_r15 [48, 49, 50, 51, 52, 53, 54, 55, 56, 57, 58, 59, 60, 61, 62, 63])
  (.cond (.t 64)
  (.reg proofmarkref05_Units_r16 [65, 66, 67, 68])
  .skip)))))
  (.reg proofmarkref05_Units_r17 [32, 33]))))))
  (.seq (.seq (.reg proofmarkref05_Units_r18 [69, 70, 71, 72, 73, 74])
  (.cond (.t 75)
  (.seq (.reg proofmarkref05_Units_r19 [])
  .ret)
  .skip))
  (.seq (.reg proofmarkref05_Units_r20 [76, 77, 78, 79, 80, 81])
  (.cond (.t 82)
  (.seq (.reg proofmarkref05_Units_r21 [83, 84, 85, 86, 87, 88])
  (.reg proofmarkref05_Units_r22 []))
  .skip)))))))
  (.reg proofmarkref05_Units_r23 [22, 23]))))))))))))
  (.seq (.seq (.reg proofmarkref05_Units_r24 [])
  (.block 6 (.loop (.seq (.seq (.reg proofmarkref05_Units_r25 [89, 90, 91])
  (.cond (.t 92)
  .skip
  (.exit 6)))
  (.seq (.block 7 (.seq (.reg proofmarkref05_Units_r26 [95])
  (.block 8 (.loop (.seq (.seq (.reg proofmarkref05_Units_r27 [96, 97, 98, 99, 100, 101, 102, 103, 104, 105, 106, 107, 108])
  (.cond (.t 109)
  .skip
  (.exit 8)))
  (.seq (.block 9 (.reg proofmarkref05_Units_r28 [112, 113, 114, 115, 116, 117, 118, 119, 120, 121, 122, 123, 124, 125, 126, 127]))
  (.reg proofmarkref05_Units_r29 [110, 111])))))))
  (.reg proofmarkref05_Units_r30 [93, 94]))))))
  (.seq (.reg proofmarkref05_Units_r31 [128])
  .ret))))))⟩
abbrev n_proofmarkref05_Units : Nat := 57
/- slices.ContainsFunc[[]int,int] -/
def slices_ContainsFunc_int_int_r0 : AT := (.rd (some 4) none (.mov (.c (.bool false)))
 .done)
def slices_ContainsFunc_int_int_r1 : AT := (.rd (some 5) none (.mov (.t 0))
 (.rd (some 6) none (.mov (.t 1))
 (.cl false (some 7) none (.c (.fn (.func 59) [] [])) [(.t 5), (.t 6)]
 (.rd (some 8) none (.bin .geq (.t 7) (.c (.int .i64 0)))
 (.rd (some 4) none (.mov (.t 8))
 .done)))))
def slices_ContainsFunc_int_int : AF := ⟨9, [.tmp 4],
  (.seq (.reg slices_ContainsFunc_int_int_r0 [])
  (.seq (.reg slices_ContainsFunc_int_int_r1 [5, 6, 7, 8])
  .ret))⟩
abbrev n_slices_ContainsFunc_int_int : Nat := 58
/- slices.IndexFunc[[]int,int] -/
def slices_IndexFunc_int_int_r0 : AT := (.rd (some 4) none (.mov (.c (.int .i64 0)))
 .done)
def slices_IndexFunc_int_int_r1 : AT := (.rd (some 6) none (.mov (.t 0))
 (.rd (some 7) none (.len 0 (.t 6))
 (.rd (some 8) none (.mov (.c (.int .i64 0)))
 .done)))
def slices_IndexFunc_int_int_r2 : AT := (.rd (some 9) none (.bin .lss (.t 8) (.t 7))
 .done)
def slices_IndexFunc_int_int_r3 : AT := (.rd (some 10) none (.mov (.t 8))
 (.rd (some 5) none (.mov (.t 10))
 .done))
def slices_IndexFunc_int_int_r4 : AT := (.rd (some 11) none (.mov (.t 1))
 (.rd (some 12) none (.mov (.t 0))
 (.rd (some 13) none (.mov (.t 5))
 (.rd (some 14) none (.iaddr none 1 (.t 12) (.t 13))
 (.rd (some 15) none (.load false 1 (.t 14))
 (.cl false (some 16) none (.t 11) [(.t 15)]
 .done))))))
def slices_IndexFunc_int_int_r5 : AT := (.rd (some 17) none (.mov (.t 5))
 (.rd (some 4) none (.mov (.t 17))
 .done))
def slices_IndexFunc_int_int_r6 : AT := (.rd (some 18) none (.bin .add (.t 8) (.c (.int .i64 1)))
 (.rd (some 8) none (.mov (.t 18))
 .done))
def slices_IndexFunc_int_int_r7 : AT := (.rd (some 4) none (.mov (.c (.int .i64 (-1))))
 .done)
def slices_IndexFunc_int_int : AF := ⟨19, [.tmp 4],
  (.seq (.reg slices_IndexFunc_int_int_r0 [])
  (.seq (.seq (.reg slices_IndexFunc_int_int_r1 [6])
  (.block 0 (.loop (.seq (.reg slices_IndexFunc_int_int_r2 [])
  (.seq (.cond (.t 9)
  .skip
  (.exit 0))
  (.seq (.block 1 (.seq (.reg slices_IndexFunc_int_int_r3 [10])
  (.seq (.reg slices_IndexFunc_int_int_r4 [11, 12, 13, 14, 15])
  (.cond (.t 16)
  (.seq (.reg slices_IndexFunc_int_int_r5 [17])
  .ret)
  .skip))))
  (.reg slices_IndexFunc_int_int_r6 [18])))))))
  (.seq (.reg slices_IndexFunc_int_int_r7 [])
  .ret)))⟩
abbrev n_slices_IndexFunc_int_int : Nat := 59
/- proofmark/clause.all[int]$1 -/
def clause_all_int__S1_r0 : AT := (.rd (some 3) none (.mov (.c (.bool false)))
 .done)
def clause_all_int__S1_r1 : AT := (.rd (some 4) none (.load false 1 (.t 1))
 (.rd (some 5) none (.mov (.t 0))
 (.cl false (some 6) none (.t 4) [(.t 5)]
 (.rd (some 7) none (.un .not (.t 6))
 (.rd (some 3) none (.mov (.t 7))
 .done)))))
def clause_all_int__S1 : AF := ⟨8, [.tmp 3],
  (.seq (.reg clause_all_int__S1_r0 [])
  (.seq (.reg clause_all_int__S1_r1 [4, 5, 6, 7])
  .ret))⟩
abbrev n_clause_all_int__S1 : Nat := 60
abbrev n_slices_pdqsortCmpFunc_int : Nat := 61
abbrev n_math_bits_Len : Nat := 62
abbrev n_cmp_isNaN_int : Nat := 63
abbrev n_sat_solver_begin : Nat := 64
abbrev n_sat_solver_run : Nat := 65
/- proofmark/proofmarkref05.has -/
def proofmarkref05_has_r0 : AT := (.rd (some 4) none (.mov (.c (.bool false)))
 .done)
def proofmarkref05_has_r1 : AT := (.rd (some 5) none (.mov (.c (.int .i64 0)))
 .done)
def proofmarkref05_has_r2 : AT := (.rd (some 6) none (.mov (.t 5))
 (.rd (some 7) none (.mov (.t 0))
 (.rd (some 8) none (.len 0 (.t 7))
 (.rd (some 9) none (.bin .lss (.t 6) (.t 8))
 .done))))
def proofmarkref05_has_r3 : AT := (.rd (some 12) none (.mov (.t 0))
 (.rd (some 13) none (.mov (.t 5))
 (.rd (some 14) none (.iaddr none 1 (.t 12) (.t 13))
 (.rd (some 15) none (.load false 1 (.t 14))
 (.rd (some 16) none (.mov (.t 1))
 (.rd (some 17) none (.bin .eql (.t 15) (.t 16))
 .done))))))
def proofmarkref05_has_r4 : AT := (.rd (some 4) none (.mov (.c (.bool true)))
 .done)
def proofmarkref05_has_r5 : AT := (.rd (some 10) none (.mov (.t 5))
 (.rd (some 11) none (.bin .add (.t 10) (.c (.int .i64 1)))
 (.rd (some 5) none (.mov (.t 11))
 .done)))
def proofmarkref05_has_r6 : AT := (.rd (some 4) none (.mov (.c (.bool false)))
 .done)
def proofmarkref05_has : AF := ⟨18, [.tmp 4],
  (.seq (.reg proofmarkref05_has_r0 [])
  (.seq (.seq (.reg proofmarkref05_has_r1 [])
  (.block 0 (.loop (.seq (.seq (.reg proofmarkref05_has_r2 [6, 7, 8])
  (.cond (.t 9)
  .skip
  (.exit 0)))
  (.seq (.block 1 (.seq (.reg proofmarkref05_has_r3 [12, 13, 14, 15, 16])
  (.cond (.t 17)
  (.seq (.reg proofmarkref05_has_r4 [])
  .ret)
  .skip)))
  (.reg proofmarkref05_has_r5 [10, 11]))))))
  (.seq (.reg proofmarkref05_has_r6 [])
  .ret)))⟩
abbrev n_proofmarkref05_has : Nat := 66
/- proofmark/proofmarkref05.before -/
def proofmarkref05_before_r0 : AT := (.rd (some 4) none (.mov (.c (.bool false)))
 .done)
def proofmarkref05_before_r1 : AT := (.rd (some 5) none (.mov (.t 0))
 (.rd (some 6) none (.mov (.t 0))
 (.rd (some 7) none (.un .neg (.t 6))
 (.rd (some 8) none (.maxi (.t 5) (.t 7))
 (.rd (some 9) none (.mov (.t 1))
 (.rd (some 10) none (.mov (.t 1))
 (.rd (some 11) none (.un .neg (.t 10))
 (.rd (some 12) none (.maxi (.t 9) (.t 11))
 (.rd (some 13) none (.bin .lss (.t 8) (.t 12))
 (.rd (some 4) none (.mov (.t 13))
 .done))))))))))
def proofmarkref05_before : AF := ⟨14, [.tmp 4],
  (.seq (.reg proofmarkref05_before_r0 [])
  (.seq (.reg proofmarkref05_before_r1 [5, 6, 7, 8, 9, 10, 11, 12, 13])
  .ret))⟩
abbrev n_proofmarkref05_before : Nat := 67
abbrev n_slices_insertionSortCmpFunc_int : Nat := 68
abbrev n_slices_heapSortCmpFunc_int : Nat := 69
abbrev n_slices_breakPatternsCmpFunc_int : Nat := 70
abbrev n_slices_choosePivotCmpFunc_int : Nat := 71
abbrev n_slices_reverseRangeCmpFunc_int : Nat := 72
abbrev n_slices_partialInsertionSortCmpFunc_int : Nat := 73
abbrev n_slices_partitionEqualCmpFunc_int : Nat := 74
abbrev n_slices_partitionCmpFunc_int : Nat := 75
abbrev n_math_bits_Len32 : Nat := 76
abbrev n_math_bits_Len64 : Nat := 77
abbrev n_sat_solver_add : Nat := 78
abbrev n_sat_solver_is : Nat := 79
abbrev n_sat_solver_set : Nat := 80
abbrev n_sat_solver_spread : Nat := 81
abbrev n_sat_solver_burn : Nat := 82
abbrev n_sat_solver_teach : Nat := 83
abbrev n_sat_solver_learn : Nat := 84
abbrev n_sat_solver_pick : Nat := 85
abbrev n_slices_siftDownCmpFunc_int : Nat := 86
abbrev n_slices_nextPowerOfTwo : Nat := 87
abbrev n_slices_xorshift_Next : Nat := 88
abbrev n_slices_medianAdjacentCmpFunc_int : Nat := 89
abbrev n_slices_medianCmpFunc_int : Nat := 90
abbrev n_sat_abs : Nat := 91
abbrev n_sat_solver_visit : Nat := 92
abbrev n_sat_solver_back : Nat := 93
abbrev n_sat_solver_learn_S1 : Nat := 94
abbrev n_slices_order2CmpFunc_int : Nat := 95
def tab : Nat → Option AF
  | 3 => some proofmarklaw08_RupCheck
  | 5 => some proofmarklaw08_RupMore
  | 8 => some proofmarklaw08_few
  | 9 => some proofmarklaw08_works
  | 10 => some proofmarklaw08_plain
  | 11 => some rup_Short
  | 12 => some proofmarkref08_Short
  | 13 => some rup_Follows
  | 14 => some proofmarkref08_Follows
  | 15 => some rup_First
  | 16 => some proofmarkref08_First
  | 17 => some rup_Check
  | 18 => some proofmarkref08_Check
  | 19 => some proofmarklaw08_sameRows
  | 20 => some clause_Right
  | 22 => some proofmarkref05_Holds
  | 23 => some proofmarkref05_Clause
  | 24 => some clause_Units
  | 26 => some slices_Clone_int_int
  | 27 => some rup_Short_S1
  | 28 => some slices_Delete_int_int
  | 29 => some slices_Clone_int_int_29
  | 30 => some rup_back
  | 31 => some proofmarkref08_without
  | 32 => some clause_Clean
  | 33 => some clause_Assign
  | 34 => some proofmarkref05_Right
  | 35 => some proofmarkref07_Follows
  | 36 => some proofmarkkit_SameInts
  | 37 => some clause_some_int
  | 38 => some clause_Units_S1
  | 39 => some slices_DeleteFunc_int_int
  | 40 => some clause_Units_S2
  | 41 => some clause_all_int
  | 42 => some clause_Units_S3
  | 43 => some slices_SortFunc_int_int
  | 51 => some slices_Compact_int_int
  | 52 => some clause_Assign_S1
  | 53 => some clause_Assign_S2
  | 54 => some clause_Assign_S3
  | 55 => some proofmarkref05_lit
  | 56 => some proofmarkref05_Clean
  | 57 => some proofmarkref05_Units
  | 58 => some slices_ContainsFunc_int_int
  | 59 => some slices_IndexFunc_int_int
  | 60 => some clause_all_int__S1
  | 66 => some proofmarkref05_has
  | 67 => some proofmarkref05_before
  | _ => none
theorem t_proofmarklaw08_RupCheck : tab n_proofmarklaw08_RupCheck = some proofmarklaw08_RupCheck := rfl
theorem t_proofmarklaw08_RupMore : tab n_proofmarklaw08_RupMore = some proofmarklaw08_RupMore := rfl
theorem t_proofmarklaw08_few : tab n_proofmarklaw08_few = some proofmarklaw08_few := rfl
theorem t_proofmarklaw08_works : tab n_proofmarklaw08_works = some proofmarklaw08_works := rfl
theorem t_proofmarklaw08_plain : tab n_proofmarklaw08_plain = some proofmarklaw08_plain := rfl
theorem t_rup_Short : tab n_rup_Short = some rup_Short := rfl
theorem t_proofmarkref08_Short : tab n_proofmarkref08_Short = some proofmarkref08_Short := rfl
theorem t_rup_Follows : tab n_rup_Follows = some rup_Follows := rfl
theorem t_proofmarkref08_Follows : tab n_proofmarkref08_Follows = some proofmarkref08_Follows := rfl
theorem t_rup_First : tab n_rup_First = some rup_First := rfl
theorem t_proofmarkref08_First : tab n_proofmarkref08_First = some proofmarkref08_First := rfl
theorem t_rup_Check : tab n_rup_Check = some rup_Check := rfl
theorem t_proofmarkref08_Check : tab n_proofmarkref08_Check = some proofmarkref08_Check := rfl
theorem t_proofmarklaw08_sameRows : tab n_proofmarklaw08_sameRows = some proofmarklaw08_sameRows := rfl
theorem t_clause_Right : tab n_clause_Right = some clause_Right := rfl
theorem t_proofmarkref05_Holds : tab n_proofmarkref05_Holds = some proofmarkref05_Holds := rfl
theorem t_proofmarkref05_Clause : tab n_proofmarkref05_Clause = some proofmarkref05_Clause := rfl
theorem t_clause_Units : tab n_clause_Units = some clause_Units := rfl
theorem t_slices_Clone_int_int : tab n_slices_Clone_int_int = some slices_Clone_int_int := rfl
theorem t_rup_Short_S1 : tab n_rup_Short_S1 = some rup_Short_S1 := rfl
theorem t_slices_Delete_int_int : tab n_slices_Delete_int_int = some slices_Delete_int_int := rfl
theorem t_slices_Clone_int_int_29 : tab n_slices_Clone_int_int_29 = some slices_Clone_int_int_29 := rfl
theorem t_rup_back : tab n_rup_back = some rup_back := rfl
theorem t_proofmarkref08_without : tab n_proofmarkref08_without = some proofmarkref08_without := rfl
theorem t_clause_Clean : tab n_clause_Clean = some clause_Clean := rfl
theorem t_clause_Assign : tab n_clause_Assign = some clause_Assign := rfl
theorem t_proofmarkref05_Right : tab n_proofmarkref05_Right = some proofmarkref05_Right := rfl
theorem t_proofmarkref07_Follows : tab n_proofmarkref07_Follows = some proofmarkref07_Follows := rfl
theorem t_proofmarkkit_SameInts : tab n_proofmarkkit_SameInts = some proofmarkkit_SameInts := rfl
theorem t_clause_some_int : tab n_clause_some_int = some clause_some_int := rfl
theorem t_clause_Units_S1 : tab n_clause_Units_S1 = some clause_Units_S1 := rfl
theorem t_slices_DeleteFunc_int_int : tab n_slices_DeleteFunc_int_int = some slices_DeleteFunc_int_int := rfl
theorem t_clause_Units_S2 : tab n_clause_Units_S2 = some clause_Units_S2 := rfl
theorem t_clause_all_int : tab n_clause_all_int = some clause_all_int := rfl
theorem t_clause_Units_S3 : tab n_clause_Units_S3 = some clause_Units_S3 := rfl
theorem t_slices_SortFunc_int_int : tab n_slices_SortFunc_int_int = some slices_SortFunc_int_int := rfl
theorem t_slices_Compact_int_int : tab n_slices_Compact_int_int = some slices_Compact_int_int := rfl
theorem t_clause_Assign_S1 : tab n_clause_Assign_S1 = some clause_Assign_S1 := rfl
theorem t_clause_Assign_S2 : tab n_clause_Assign_S2 = some clause_Assign_S2 := rfl
theorem t_clause_Assign_S3 : tab n_clause_Assign_S3 = some clause_Assign_S3 := rfl
theorem t_proofmarkref05_lit : tab n_proofmarkref05_lit = some proofmarkref05_lit := rfl
theorem t_proofmarkref05_Clean : tab n_proofmarkref05_Clean = some proofmarkref05_Clean := rfl
theorem t_proofmarkref05_Units : tab n_proofmarkref05_Units = some proofmarkref05_Units := rfl
theorem t_slices_ContainsFunc_int_int : tab n_slices_ContainsFunc_int_int = some slices_ContainsFunc_int_int := rfl
theorem t_slices_IndexFunc_int_int : tab n_slices_IndexFunc_int_int = some slices_IndexFunc_int_int := rfl
theorem t_clause_all_int__S1 : tab n_clause_all_int__S1 = some clause_all_int__S1 := rfl
theorem t_proofmarkref05_has : tab n_proofmarkref05_has = some proofmarkref05_has := rfl
theorem t_proofmarkref05_before : tab n_proofmarkref05_before = some proofmarkref05_before := rfl
end Go.Proofs.Ytingdebioipemaa
