/- The translations of the functions, by a program of mine. -/
import Derived.Test.YtkhdfbokkneeaaaDoorTabA
namespace Go.Proofs.YtkhdfbokkneeaaaDoor
open Go Go.Am
set_option maxRecDepth 100000
/- proofmark/rv.Decode$1 -/
def rv_Decode_S1_r0 : AT := (.wr false (some 2) none (.box 48 (.t 0))
 (.rd (some 3) none (.mov (.c (.bool false)))
 .done))
def rv_Decode_S1_r1 : AT := (.rd (some 4) none (.faddr 0 (.t 2))
 (.rd (some 5) none (.faddr 6 (.t 4))
 (.rd (some 6) none (.load false 1 (.t 5))
 (.rd (some 7) none (.bin .neq (.t 6) (.c (.int .u32 0)))
 (.rd (some 8) none (.mov (.t 7))
 (.rd (some 9) (some (8, true)) (.load false 1 (.t 1))
 (.rd (some 10) (some (8, true)) (.faddr 0 (.t 2))
 (.rd (some 11) (some (8, true)) (.faddr 6 (.t 10))
 (.rd (some 12) (some (8, true)) (.load false 1 (.t 11))
 (.rd (some 13) (some (8, true)) (.bin .and (.t 9) (.t 12))
 (.rd (some 14) (some (8, true)) (.faddr 8 (.t 2))
 (.rd (some 15) (some (8, true)) (.load false 1 (.t 14))
 (.rd (some 16) (some (8, true)) (.bin .eql (.t 13) (.t 15))
 (.rd (some 17) none (.pick (.t 8) (.t 16) (.c (.bool false)))
 (.rd (some 3) none (.mov (.t 17))
 .done)))))))))))))))
def rv_Decode_S1 : AF := ⟨18, [.tmp 3],
  (.seq (.reg rv_Decode_S1_r0 [])
  (.seq (.reg rv_Decode_S1_r1 [4, 5, 6, 7, 8, 9, 10, 11, 12, 13, 14, 15, 16, 17])
  .ret))⟩
abbrev n_rv_Decode_S1 : Nat := 18
/- (proofmark/rv.form).number -/
def rv_form_number_r0 : AT := (.wr false (some 2) none (.box 46 (.t 0))
 (.rd (some 4) none (.mov (.c (.int .i64 0)))
 .done))
def rv_form_number_r1 : AT := (.rd (some 5) none (.mov (.c (.int .i64 0)))
 .done)
def rv_form_number_r2 : AT := (.rd (some 8) none (.faddr 3 (.t 2))
 (.rd (some 9) none (.load false 1 (.t 8))
 (.rd (some 10) none (.len 0 (.t 9))
 (.rd (some 11) none (.mov (.c (.int .i64 0)))
 .done))))
def rv_form_number_r3 : AT := (.rd (some 12) none (.bin .lss (.t 11) (.t 10))
 .done)
def rv_form_number_r4 : AT := (.rd (some 13) none (.iaddr none 2 (.t 9) (.t 11))
 (.rd (some 14) none (.load true 2 (.t 13))
 (.wr false (some 7) none (.new 57 [(.int .i64 0), (.int .i64 0)])
 (.wr false none none (.store 2 (.t 7) (.t 14))
 .done))))
def rv_form_number_r5 : AT := (.rd (some 15) none (.mov (.t 5))
 (.rd (some 16) none (.faddr 1 (.t 7))
 (.rd (some 17) none (.load false 1 (.t 16))
 (.rd (some 18) none (.bin .shl (.t 15) (.t 17))
 (.rd (some 19) none (.load true 2 (.t 7))
 (.rd (some 20) none (.mov (.t 1))
 (.cl true (some 21) none (.c (.fn (.func 20) [] [])) [(.t 19), (.t 20)]
 (.rd (some 22) none (.conv .i64 (.t 21))
 (.rd (some 23) none (.bin .or (.t 18) (.t 22))
 (.rd (some 5) none (.mov (.t 23))
 .done))))))))))
def rv_form_number_r6 : AT := (.rd (some 24) none (.bin .add (.t 11) (.c (.int .i64 1)))
 (.rd (some 11) none (.mov (.t 24))
 .done))
def rv_form_number_r7 : AT := (.rd (some 25) none (.mov (.t 5))
 (.rd (some 26) none (.faddr 4 (.t 2))
 (.rd (some 27) none (.load false 1 (.t 26))
 (.rd (some 28) none (.bin .shl (.t 25) (.t 27))
 (.rd (some 5) none (.mov (.t 28))
 .done)))))
def rv_form_number_r8 : AT := (.rd (some 29) none (.faddr 5 (.t 2))
 (.rd (some 30) none (.load false 1 (.t 29))
 .done))
def rv_form_number_r9 : AT := (.rd (some 31) none (.mov (.t 5))
 (.rd (some 32) none (.load true 7 (.t 2))
 (.rd (some 36) none (.load true 7 (.t 2))
 (.cl true (some 33) none (.c (.fn (.func 46) [] [])) [(.t 32)]
 (.rd (some 34) none (.bin .sub (.c (.int .i64 64)) (.t 33))
 (.rd (some 35) none (.bin .shl (.t 31) (.t 34))
 (.cl false (some 37) none (.c (.fn (.func 46) [] [])) [(.t 36)]
 (.rd (some 38) none (.bin .sub (.c (.int .i64 64)) (.t 37))
 (.rd (some 39) none (.bin .shr (.t 35) (.t 38))
 (.rd (some 5) none (.mov (.t 39))
 .done))))))))))
def rv_form_number_r10 : AT := (.rd (some 40) none (.mov (.t 5))
 (.rd (some 4) none (.mov (.t 40))
 .done))
def rv_form_number : AF := ⟨41, [.tmp 4],
  (.seq (.reg rv_form_number_r0 [])
  (.seq (.reg rv_form_number_r1 [])
  (.seq (.seq (.reg rv_form_number_r2 [8])
  (.block 0 (.loop (.seq (.reg rv_form_number_r3 [])
  (.seq (.cond (.t 12)
  .skip
  (.exit 0))
  (.seq (.block 1 (.seq (.reg rv_form_number_r4 [13, 14])
  (.reg rv_form_number_r5 [15, 16, 17, 18, 19, 20, 21, 22, 23])))
  (.reg rv_form_number_r6 [24])))))))
  (.seq (.reg rv_form_number_r7 [25, 26, 27, 28])
  (.seq (.seq (.reg rv_form_number_r8 [29])
  (.cond (.t 30)
  (.reg rv_form_number_r9 [31, 32, 33, 34, 35, 36, 37, 38, 39])
  .skip))
  (.seq (.reg rv_form_number_r10 [40])
  .ret))))))⟩
abbrev n_rv_form_number : Nat := 19
/- (proofmark/rv.bits).of -/
def rv_bits_of_r0 : AT := (.wr false (some 2) none (.box 57 (.t 0))
 (.rd (some 4) none (.mov (.c (.int .u32 0)))
 .done))
def rv_bits_of_r1 : AT := (.rd (some 5) none (.mov (.t 1))
 (.rd (some 6) none (.faddr 0 (.t 2))
 (.rd (some 7) none (.load false 1 (.t 6))
 (.rd (some 8) none (.bin .shr (.t 5) (.t 7))
 (.rd (some 9) none (.faddr 1 (.t 2))
 (.rd (some 10) none (.load false 1 (.t 9))
 (.rd (some 11) none (.bin .shl (.c (.int .u32 1)) (.t 10))
 (.rd (some 12) none (.bin .sub (.t 11) (.c (.int .u32 1)))
 (.rd (some 13) none (.bin .and (.t 8) (.t 12))
 (.rd (some 4) none (.mov (.t 13))
 .done))))))))))
def rv_bits_of : AF := ⟨14, [.tmp 4],
  (.seq (.reg rv_bits_of_r0 [])
  (.seq (.reg rv_bits_of_r1 [5, 6, 7, 8, 9, 10, 11, 12, 13])
  .ret))⟩
abbrev n_rv_bits_of : Nat := 20
/- proofmark/proofmarkref10.rows -/
def proofmarkref10_rows_r0 : AT := (.rd (some 0) none (.mov (.c (.lst 0 [] true)))
 .done)
def proofmarkref10_rows_r1 : AT := (.rd (some 1) none (.build [(.int .u8 0), (.str []), (.int .u32 0), (.int .u32 0), (.int .u32 0)] [(0, 1, (.c (.int .u8 85))), (1, 1, (.c (.str [108, 117, 105]))), (2, 1, (.c (.int .u32 55))), (3, 1, (.c (.int .u32 0))), (4, 1, (.c (.int .u32 0)))])
 (.rd (some 2) none (.build [(.int .u8 0), (.str []), (.int .u32 0), (.int .u32 0), (.int .u32 0)] [(0, 1, (.c (.int .u8 85))), (1, 1, (.c (.str [97, 117, 105, 112, 99]))), (2, 1, (.c (.int .u32 23))), (3, 1, (.c (.int .u32 0))), (4, 1, (.c (.int .u32 0)))])
 (.rd (some 3) none (.build [(.int .u8 0), (.str []), (.int .u32 0), (.int .u32 0), (.int .u32 0)] [(0, 1, (.c (.int .u8 74))), (1, 1, (.c (.str [106, 97, 108]))), (2, 1, (.c (.int .u32 111))), (3, 1, (.c (.int .u32 0))), (4, 1, (.c (.int .u32 0)))])
 (.rd (some 4) none (.build [(.int .u8 0), (.str []), (.int .u32 0), (.int .u32 0), (.int .u32 0)] [(0, 1, (.c (.int .u8 73))), (1, 1, (.c (.str [106, 97, 108, 114]))), (2, 1, (.c (.int .u32 103))), (3, 1, (.c (.int .u32 0))), (4, 1, (.c (.int .u32 0)))])
 (.rd (some 5) none (.build [(.int .u8 0), (.str []), (.int .u32 0), (.int .u32 0), (.int .u32 0)] [(0, 1, (.c (.int .u8 66))), (1, 1, (.c (.str [98, 101, 113]))), (2, 1, (.c (.int .u32 99))), (3, 1, (.c (.int .u32 0))), (4, 1, (.c (.int .u32 0)))])
 (.rd (some 6) none (.build [(.int .u8 0), (.str []), (.int .u32 0), (.int .u32 0), (.int .u32 0)] [(0, 1, (.c (.int .u8 66))), (1, 1, (.c (.str [98, 110, 101]))), (2, 1, (.c (.int .u32 99))), (3, 1, (.c (.int .u32 1))), (4, 1, (.c (.int .u32 0)))])
 (.rd (some 7) none (.build [(.int .u8 0), (.str []), (.int .u32 0), (.int .u32 0), (.int .u32 0)] [(0, 1, (.c (.int .u8 66))), (1, 1, (.c (.str [98, 108, 116]))), (2, 1, (.c (.int .u32 99))), (3, 1, (.c (.int .u32 4))), (4, 1, (.c (.int .u32 0)))])
 (.rd (some 8) none (.build [(.int .u8 0), (.str []), (.int .u32 0), (.int .u32 0), (.int .u32 0)] [(0, 1, (.c (.int .u8 66))), (1, 1, (.c (.str [98, 103, 101]))), (2, 1, (.c (.int .u32 99))), (3, 1, (.c (.int .u32 5))), (4, 1, (.c (.int .u32 0)))])
 (.rd (some 9) none (.build [(.int .u8 0), (.str []), (.int .u32 0), (.int .u32 0), (.int .u32 0)] [(0, 1, (.c (.int .u8 66))), (1, 1, (.c (.str [98, 108, 116, 117]))), (2, 1, (.c (.int .u32 99))), (3, 1, (.c (.int .u32 6))), (4, 1, (.c (.int .u32 0)))])
 (.rd (some 10) none (.build [(.int .u8 0), (.str []), (.int .u32 0), (.int .u32 0), (.int .u32 0)] [(0, 1, (.c (.int .u8 66))), (1, 1, (.c (.str [98, 103, 101, 117]))), (2, 1, (.c (.int .u32 99))), (3, 1, (.c (.int .u32 7))), (4, 1, (.c (.int .u32 0)))])
 (.rd (some 11) none (.build [(.int .u8 0), (.str []), (.int .u32 0), (.int .u32 0), (.int .u32 0)] [(0, 1, (.c (.int .u8 73))), (1, 1, (.c (.str [108, 98]))), (2, 1, (.c (.int .u32 3))), (3, 1, (.c (.int .u32 0))), (4, 1, (.c (.int .u32 0)))])
 (.rd (some 12) none (.build [(.int .u8 0), (.str []), (.int .u32 0), (.int .u32 0), (.int .u32 0)] [(0, 1, (.c (.int .u8 73))), (1, 1, (.c (.str [108, 104]))), (2, 1, (.c (.int .u32 3))), (3, 1, (.c (.int .u32 1))), (4, 1, (.c (.int .u32 0)))])
 (.rd (some 13) none (.build [(.int .u8 0), (.str []), (.int .u32 0), (.int .u32 0), (.int .u32 0)] [(0, 1, (.c (.int .u8 73))), (1, 1, (.c (.str [108, 119]))), (2, 1, (.c (.int .u32 3))), (3, 1, (.c (.int .u32 2))), (4, 1, (.c (.int .u32 0)))])
 (.rd (some 14) none (.build [(.int .u8 0), (.str []), (.int .u32 0), (.int .u32 0), (.int .u32 0)] [(0, 1, (.c (.int .u8 73))), (1, 1, (.c (.str [108, 100]))), (2, 1, (.c (.int .u32 3))), (3, 1, (.c (.int .u32 3))), (4, 1, (.c (.int .u32 0)))])
 (.rd (some 15) none (.build [(.int .u8 0), (.str []), (.int .u32 0), (.int .u32 0), (.int .u32 0)] [(0, 1, (.c (.int .u8 73))), (1, 1, (.c (.str [108, 98, 117]))), (2, 1, (.c (.int .u32 3))), (3, 1, (.c (.int .u32 4))), (4, 1, (.c (.int .u32 0)))])
 (.rd (some 16) none (.build [(.int .u8 0), (.str []), (.int .u32 0), (.int .u32 0), (.int .u32 0)] [(0, 1, (.c (.int .u8 73))), (1, 1, (.c (.str [108, 104, 117]))), (2, 1, (.c (.int .u32 3))), (3, 1, (.c (.int .u32 5))), (4, 1, (.c (.int .u32 0)))])
 (.rd (some 17) none (.build [(.int .u8 0), (.str []), (.int .u32 0), (.int .u32 0), (.int .u32 0)] [(0, 1, (.c (.int .u8 73))), (1, 1, (.c (.str [108, 119, 117]))), (2, 1, (.c (.int .u32 3))), (3, 1, (.c (.int .u32 6))), (4, 1, (.c (.int .u32 0)))])
 (.rd (some 18) none (.build [(.int .u8 0), (.str []), (.int .u32 0), (.int .u32 0), (.int .u32 0)] [(0, 1, (.c (.int .u8 83))), (1, 1, (.c (.str [115, 98]))), (2, 1, (.c (.int .u32 35))), (3, 1, (.c (.int .u32 0))), (4, 1, (.c (.int .u32 0)))])
 (.rd (some 19) none (.build [(.int .u8 0), (.str []), (.int .u32 0), (.int .u32 0), (.int .u32 0)] [(0, 1, (.c (.int .u8 83))), (1, 1, (.c (.str [115, 104]))), (2, 1, (.c (.int .u32 35))), (3, 1, (.c (.int .u32 1))), (4, 1, (.c (.int .u32 0)))])
 (.rd (some 20) none (.build [(.int .u8 0), (.str []), (.int .u32 0), (.int .u32 0), (.int .u32 0)] [(0, 1, (.c (.int .u8 83))), (1, 1, (.c (.str [115, 119]))), (2, 1, (.c (.int .u32 35))), (3, 1, (.c (.int .u32 2))), (4, 1, (.c (.int .u32 0)))])
 (.rd (some 21) none (.build [(.int .u8 0), (.str []), (.int .u32 0), (.int .u32 0), (.int .u32 0)] [(0, 1, (.c (.int .u8 83))), (1, 1, (.c (.str [115, 100]))), (2, 1, (.c (.int .u32 35))), (3, 1, (.c (.int .u32 3))), (4, 1, (.c (.int .u32 0)))])
 (.rd (some 22) none (.build [(.int .u8 0), (.str []), (.int .u32 0), (.int .u32 0), (.int .u32 0)] [(0, 1, (.c (.int .u8 73))), (1, 1, (.c (.str [97, 100, 100, 105]))), (2, 1, (.c (.int .u32 19))), (3, 1, (.c (.int .u32 0))), (4, 1, (.c (.int .u32 0)))])
 (.rd (some 23) none (.build [(.int .u8 0), (.str []), (.int .u32 0), (.int .u32 0), (.int .u32 0)] [(0, 1, (.c (.int .u8 73))), (1, 1, (.c (.str [115, 108, 116, 105]))), (2, 1, (.c (.int .u32 19))), (3, 1, (.c (.int .u32 2))), (4, 1, (.c (.int .u32 0)))])
 (.rd (some 24) none (.build [(.int .u8 0), (.str []), (.int .u32 0), (.int .u32 0), (.int .u32 0)] [(0, 1, (.c (.int .u8 73))), (1, 1, (.c (.str [115, 108, 116, 105, 117]))), (2, 1, (.c (.int .u32 19))), (3, 1, (.c (.int .u32 3))), (4, 1, (.c (.int .u32 0)))])
 (.rd (some 25) none (.build [(.int .u8 0), (.str []), (.int .u32 0), (.int .u32 0), (.int .u32 0)] [(0, 1, (.c (.int .u8 73))), (1, 1, (.c (.str [120, 111, 114, 105]))), (2, 1, (.c (.int .u32 19))), (3, 1, (.c (.int .u32 4))), (4, 1, (.c (.int .u32 0)))])
 (.rd (some 26) none (.build [(.int .u8 0), (.str []), (.int .u32 0), (.int .u32 0), (.int .u32 0)] [(0, 1, (.c (.int .u8 73))), (1, 1, (.c (.str [111, 114, 105]))), (2, 1, (.c (.int .u32 19))), (3, 1, (.c (.int .u32 6))), (4, 1, (.c (.int .u32 0)))])
 (.rd (some 27) none (.build [(.int .u8 0), (.str []), (.int .u32 0), (.int .u32 0), (.int .u32 0)] [(0, 1, (.c (.int .u8 73))), (1, 1, (.c (.str [97, 110, 100, 105]))), (2, 1, (.c (.int .u32 19))), (3, 1, (.c (.int .u32 7))), (4, 1, (.c (.int .u32 0)))])
 (.rd (some 28) none (.build [(.int .u8 0), (.str []), (.int .u32 0), (.int .u32 0), (.int .u32 0)] [(0, 1, (.c (.int .u8 72))), (1, 1, (.c (.str [115, 108, 108, 105]))), (2, 1, (.c (.int .u32 19))), (3, 1, (.c (.int .u32 1))), (4, 1, (.c (.int .u32 0)))])
 (.rd (some 29) none (.build [(.int .u8 0), (.str []), (.int .u32 0), (.int .u32 0), (.int .u32 0)] [(0, 1, (.c (.int .u8 72))), (1, 1, (.c (.str [115, 114, 108, 105]))), (2, 1, (.c (.int .u32 19))), (3, 1, (.c (.int .u32 5))), (4, 1, (.c (.int .u32 0)))])
 (.rd (some 30) none (.build [(.int .u8 0), (.str []), (.int .u32 0), (.int .u32 0), (.int .u32 0)] [(0, 1, (.c (.int .u8 72))), (1, 1, (.c (.str [115, 114, 97, 105]))), (2, 1, (.c (.int .u32 19))), (3, 1, (.c (.int .u32 5))), (4, 1, (.c (.int .u32 32)))])
 (.rd (some 31) none (.build [(.int .u8 0), (.str []), (.int .u32 0), (.int .u32 0), (.int .u32 0)] [(0, 1, (.c (.int .u8 82))), (1, 1, (.c (.str [97, 100, 100]))), (2, 1, (.c (.int .u32 51))), (3, 1, (.c (.int .u32 0))), (4, 1, (.c (.int .u32 0)))])
 (.rd (some 32) none (.build [(.int .u8 0), (.str []), (.int .u32 0), (.int .u32 0), (.int .u32 0)] [(0, 1, (.c (.int .u8 82))), (1, 1, (.c (.str [115, 117, 98]))), (2, 1, (.c (.int .u32 51))), (3, 1, (.c (.int .u32 0))), (4, 1, (.c (.int .u32 32)))])
 (.rd (some 33) none (.build [(.int .u8 0), (.str []), (.int .u32 0), (.int .u32 0), (.int .u32 0)] [(0, 1, (.c (.int .u8 82))), (1, 1, (.c (.str [115, 108, 108]))), (2, 1, (.c (.int .u32 51))), (3, 1, (.c (.int .u32 1))), (4, 1, (.c (.int .u32 0)))])
 (.rd (some 34) none (.build [(.int .u8 0), (.str []), (.int .u32 0), (.int .u32 0), (.int .u32 0)] [(0, 1, (.c (.int .u8 82))), (1, 1, (.c (.str [115, 108, 116]))), (2, 1, (.c (.int .u32 51))), (3, 1, (.c (.int .u32 2))), (4, 1, (.c (.int .u32 0)))])
 (.rd (some 35) none (.build [(.int .u8 0), (.str []), (.int .u32 0), (.int .u32 0), (.int .u32 0)] [(0, 1, (.c (.int .u8 82))), (1, 1, (.c (.str [115, 108, 116, 117]))), (2, 1, (.c (.int .u32 51))), (3, 1, (.c (.int .u32 3))), (4, 1, (.c (.int .u32 0)))])
 (.rd (some 36) none (.build [(.int .u8 0), (.str []), (.int .u32 0), (.int .u32 0), (.int .u32 0)] [(0, 1, (.c (.int .u8 82))), (1, 1, (.c (.str [120, 111, 114]))), (2, 1, (.c (.int .u32 51))), (3, 1, (.c (.int .u32 4))), (4, 1, (.c (.int .u32 0)))])
 (.rd (some 37) none (.build [(.int .u8 0), (.str []), (.int .u32 0), (.int .u32 0), (.int .u32 0)] [(0, 1, (.c (.int .u8 82))), (1, 1, (.c (.str [115, 114, 108]))), (2, 1, (.c (.int .u32 51))), (3, 1, (.c (.int .u32 5))), (4, 1, (.c (.int .u32 0)))])
 (.rd (some 38) none (.build [(.int .u8 0), (.str []), (.int .u32 0), (.int .u32 0), (.int .u32 0)] [(0, 1, (.c (.int .u8 82))), (1, 1, (.c (.str [115, 114, 97]))), (2, 1, (.c (.int .u32 51))), (3, 1, (.c (.int .u32 5))), (4, 1, (.c (.int .u32 32)))])
 (.rd (some 39) none (.build [(.int .u8 0), (.str []), (.int .u32 0), (.int .u32 0), (.int .u32 0)] [(0, 1, (.c (.int .u8 82))), (1, 1, (.c (.str [111, 114]))), (2, 1, (.c (.int .u32 51))), (3, 1, (.c (.int .u32 6))), (4, 1, (.c (.int .u32 0)))])
 (.rd (some 40) none (.build [(.int .u8 0), (.str []), (.int .u32 0), (.int .u32 0), (.int .u32 0)] [(0, 1, (.c (.int .u8 82))), (1, 1, (.c (.str [97, 110, 100]))), (2, 1, (.c (.int .u32 51))), (3, 1, (.c (.int .u32 7))), (4, 1, (.c (.int .u32 0)))])
 (.rd (some 41) none (.build [(.int .u8 0), (.str []), (.int .u32 0), (.int .u32 0), (.int .u32 0)] [(0, 1, (.c (.int .u8 73))), (1, 1, (.c (.str [97, 100, 100, 105, 119]))), (2, 1, (.c (.int .u32 27))), (3, 1, (.c (.int .u32 0))), (4, 1, (.c (.int .u32 0)))])
 (.rd (some 42) none (.build [(.int .u8 0), (.str []), (.int .u32 0), (.int .u32 0), (.int .u32 0)] [(0, 1, (.c (.int .u8 87))), (1, 1, (.c (.str [115, 108, 108, 105, 119]))), (2, 1, (.c (.int .u32 27))), (3, 1, (.c (.int .u32 1))), (4, 1, (.c (.int .u32 0)))])
 (.rd (some 43) none (.build [(.int .u8 0), (.str []), (.int .u32 0), (.int .u32 0), (.int .u32 0)] [(0, 1, (.c (.int .u8 87))), (1, 1, (.c (.str [115, 114, 108, 105, 119]))), (2, 1, (.c (.int .u32 27))), (3, 1, (.c (.int .u32 5))), (4, 1, (.c (.int .u32 0)))])
 (.rd (some 44) none (.build [(.int .u8 0), (.str []), (.int .u32 0), (.int .u32 0), (.int .u32 0)] [(0, 1, (.c (.int .u8 87))), (1, 1, (.c (.str [115, 114, 97, 105, 119]))), (2, 1, (.c (.int .u32 27))), (3, 1, (.c (.int .u32 5))), (4, 1, (.c (.int .u32 32)))])
 (.rd (some 45) none (.build [(.int .u8 0), (.str []), (.int .u32 0), (.int .u32 0), (.int .u32 0)] [(0, 1, (.c (.int .u8 82))), (1, 1, (.c (.str [97, 100, 100, 119]))), (2, 1, (.c (.int .u32 59))), (3, 1, (.c (.int .u32 0))), (4, 1, (.c (.int .u32 0)))])
 (.rd (some 46) none (.build [(.int .u8 0), (.str []), (.int .u32 0), (.int .u32 0), (.int .u32 0)] [(0, 1, (.c (.int .u8 82))), (1, 1, (.c (.str [115, 117, 98, 119]))), (2, 1, (.c (.int .u32 59))), (3, 1, (.c (.int .u32 0))), (4, 1, (.c (.int .u32 32)))])
 (.rd (some 47) none (.build [(.int .u8 0), (.str []), (.int .u32 0), (.int .u32 0), (.int .u32 0)] [(0, 1, (.c (.int .u8 82))), (1, 1, (.c (.str [115, 108, 108, 119]))), (2, 1, (.c (.int .u32 59))), (3, 1, (.c (.int .u32 1))), (4, 1, (.c (.int .u32 0)))])
 (.rd (some 48) none (.build [(.int .u8 0), (.str []), (.int .u32 0), (.int .u32 0), (.int .u32 0)] [(0, 1, (.c (.int .u8 82))), (1, 1, (.c (.str [115, 114, 108, 119]))), (2, 1, (.c (.int .u32 59))), (3, 1, (.c (.int .u32 5))), (4, 1, (.c (.int .u32 0)))])
 (.rd (some 49) none (.build [(.int .u8 0), (.str []), (.int .u32 0), (.int .u32 0), (.int .u32 0)] [(0, 1, (.c (.int .u8 82))), (1, 1, (.c (.str [115, 114, 97, 119]))), (2, 1, (.c (.int .u32 59))), (3, 1, (.c (.int .u32 5))), (4, 1, (.c (.int .u32 32)))])
 (.rd (some 50) none (.build [(.int .u8 0), (.str []), (.int .u32 0), (.int .u32 0), (.int .u32 0)] [(0, 1, (.c (.int .u8 82))), (1, 1, (.c (.str [109, 117, 108]))), (2, 1, (.c (.int .u32 51))), (3, 1, (.c (.int .u32 0))), (4, 1, (.c (.int .u32 1)))])
 (.rd (some 51) none (.build [(.int .u8 0), (.str []), (.int .u32 0), (.int .u32 0), (.int .u32 0)] [(0, 1, (.c (.int .u8 82))), (1, 1, (.c (.str [109, 117, 108, 104]))), (2, 1, (.c (.int .u32 51))), (3, 1, (.c (.int .u32 1))), (4, 1, (.c (.int .u32 1)))])
 (.rd (some 52) none (.build [(.int .u8 0), (.str []), (.int .u32 0), (.int .u32 0), (.int .u32 0)] [(0, 1, (.c (.int .u8 82))), (1, 1, (.c (.str [109, 117, 108, 104, 115, 117]))), (2, 1, (.c (.int .u32 51))), (3, 1, (.c (.int .u32 2))), (4, 1, (.c (.int .u32 1)))])
 (.rd (some 53) none (.build [(.int .u8 0), (.str []), (.int .u32 0), (.int .u32 0), (.int .u32 0)] [(0, 1, (.c (.int .u8 82))), (1, 1, (.c (.str [109, 117, 108, 104, 117]))), (2, 1, (.c (.int .u32 51))), (3, 1, (.c (.int .u32 3))), (4, 1, (.c (.int .u32 1)))])
 (.rd (some 54) none (.build [(.int .u8 0), (.str []), (.int .u32 0), (.int .u32 0), (.int .u32 0)] [(0, 1, (.c (.int .u8 82))), (1, 1, (.c (.str [100, 105, 118]))), (2, 1, (.c (.int .u32 51))), (3, 1, (.c (.int .u32 4))), (4, 1, (.c (.int .u32 1)))])
 (.rd (some 55) none (.build [(.int .u8 0), (.str []), (.int .u32 0), (.int .u32 0), (.int .u32 0)] [(0, 1, (.c (.int .u8 82))), (1, 1, (.c (.str [100, 105, 118, 117]))), (2, 1, (.c (.int .u32 51))), (3, 1, (.c (.int .u32 5))), (4, 1, (.c (.int .u32 1)))])
 (.rd (some 56) none (.build [(.int .u8 0), (.str []), (.int .u32 0), (.int .u32 0), (.int .u32 0)] [(0, 1, (.c (.int .u8 82))), (1, 1, (.c (.str [114, 101, 109]))), (2, 1, (.c (.int .u32 51))), (3, 1, (.c (.int .u32 6))), (4, 1, (.c (.int .u32 1)))])
 (.rd (some 57) none (.build [(.int .u8 0), (.str []), (.int .u32 0), (.int .u32 0), (.int .u32 0)] [(0, 1, (.c (.int .u8 82))), (1, 1, (.c (.str [114, 101, 109, 117]))), (2, 1, (.c (.int .u32 51))), (3, 1, (.c (.int .u32 7))), (4, 1, (.c (.int .u32 1)))])
 (.rd (some 58) none (.build [(.int .u8 0), (.str []), (.int .u32 0), (.int .u32 0), (.int .u32 0)] [(0, 1, (.c (.int .u8 82))), (1, 1, (.c (.str [109, 117, 108, 119]))), (2, 1, (.c (.int .u32 59))), (3, 1, (.c (.int .u32 0))), (4, 1, (.c (.int .u32 1)))])
 (.rd (some 59) none (.build [(.int .u8 0), (.str []), (.int .u32 0), (.int .u32 0), (.int .u32 0)] [(0, 1, (.c (.int .u8 82))), (1, 1, (.c (.str [100, 105, 118, 119]))), (2, 1, (.c (.int .u32 59))), (3, 1, (.c (.int .u32 4))), (4, 1, (.c (.int .u32 1)))])
 (.rd (some 60) none (.build [(.int .u8 0), (.str []), (.int .u32 0), (.int .u32 0), (.int .u32 0)] [(0, 1, (.c (.int .u8 82))), (1, 1, (.c (.str [100, 105, 118, 117, 119]))), (2, 1, (.c (.int .u32 59))), (3, 1, (.c (.int .u32 5))), (4, 1, (.c (.int .u32 1)))])
 (.rd (some 61) none (.build [(.int .u8 0), (.str []), (.int .u32 0), (.int .u32 0), (.int .u32 0)] [(0, 1, (.c (.int .u8 82))), (1, 1, (.c (.str [114, 101, 109, 119]))), (2, 1, (.c (.int .u32 59))), (3, 1, (.c (.int .u32 6))), (4, 1, (.c (.int .u32 1)))])
 (.rd (some 62) none (.build [(.int .u8 0), (.str []), (.int .u32 0), (.int .u32 0), (.int .u32 0)] [(0, 1, (.c (.int .u8 82))), (1, 1, (.c (.str [114, 101, 109, 117, 119]))), (2, 1, (.c (.int .u32 59))), (3, 1, (.c (.int .u32 7))), (4, 1, (.c (.int .u32 1)))])
 (.rd (some 63) none (.build [(.int .u8 0), (.str []), (.int .u32 0), (.int .u32 0), (.int .u32 0)] [(0, 1, (.c (.int .u8 73))), (1, 1, (.c (.str [102, 101, 110, 99, 101]))), (2, 1, (.c (.int .u32 15))), (3, 1, (.c (.int .u32 0))), (4, 1, (.c (.int .u32 0)))])
 (.rd (some 64) none (.build [(.int .u8 0), (.str []), (.int .u32 0), (.int .u32 0), (.int .u32 0)] [(0, 1, (.c (.int .u8 69))), (1, 1, (.c (.str [101, 99, 97, 108, 108]))), (2, 1, (.c (.int .u32 115))), (3, 1, (.c (.int .u32 0))), (4, 1, (.c (.int .u32 0)))])
 (.rd (some 65) none (.build [(.int .u8 0), (.str []), (.int .u32 0), (.int .u32 0), (.int .u32 0)] [(0, 1, (.c (.int .u8 69))), (1, 1, (.c (.str [101, 98, 114, 101, 97, 107]))), (2, 1, (.c (.int .u32 115))), (3, 1, (.c (.int .u32 0))), (4, 1, (.c (.int .u32 0)))])
 (.wr false (some 66) none (.bsl false true 65 5 [(.int .u8 0), (.str []), (.int .u32 0), (.int .u32 0), (.int .u32 0)] 65 [(0, 5, (.t 1)), (5, 5, (.t 2)), (10, 5, (.t 3)), (15, 5, (.t 4)), (20, 5, (.t 5)), (25, 5, (.t 6)), (30, 5, (.t 7)), (35, 5, (.t 8)), (40, 5, (.t 9)), (45, 5, (.t 10)), (50, 5, (.t 11)), (55, 5, (.t 12)), (60, 5, (.t 13)), (65, 5, (.t 14)), (70, 5, (.t 15)), (75, 5, (.t 16)), (80, 5, (.t 17)), (85, 5, (.t 18)), (90, 5, (.t 19)), (95, 5, (.t 20)), (100, 5, (.t 21)), (105, 5, (.t 22)), (110, 5, (.t 23)), (115, 5, (.t 24)), (120, 5, (.t 25)), (125, 5, (.t 26)), (130, 5, (.t 27)), (135, 5, (.t 28)), (140, 5, (.t 29)), (145, 5, (.t 30)), (150, 5, (.t 31)), (155, 5, (.t 32)), (160, 5, (.t 33)), (165, 5, (.t 34)), (170, 5, (.t 35)), (175, 5, (.t 36)), (180, 5, (.t 37)), (185, 5, (.t 38)), (190, 5, (.t 39)), (195, 5, (.t 40)), (200, 5, (.t 41)), (205, 5, (.t 42)), (210, 5, (.t 43)), (215, 5, (.t 44)), (220, 5, (.t 45)), (225, 5, (.t 46)), (230, 5, (.t 47)), (235, 5, (.t 48)), (240, 5, (.t 49)), (245, 5, (.t 50)), (250, 5, (.t 51)), (255, 5, (.t 52)), (260, 5, (.t 53)), (265, 5, (.t 54)), (270, 5, (.t 55)), (275, 5, (.t 56)), (280, 5, (.t 57)), (285, 5, (.t 58)), (290, 5, (.t 59)), (295, 5, (.t 60)), (300, 5, (.t 61)), (305, 5, (.t 62)), (310, 5, (.t 63)), (315, 5, (.t 64)), (320, 5, (.t 65))])
 (.rd (some 0) none (.mov (.t 66))
 .done)))))))))))))))))))))))))))))))))))))))))))))))))))))))))))))))))))
def proofmarkref10_rows : AF := ⟨67, [.tmp 0],
  (.seq (.reg proofmarkref10_rows_r0 [])
  (.seq (.reg proofmarkref10_rows_r1 [1, 2, 3, 4, 5, 6, 7, 8, 9, 10, 11, 12, 13, 14, 15, 16, 17, 18, 19, 20, 21, 22, 23, 24, 25, 26, 27, 28, 29, 30, 31, 32, 33, 34, 35, 36, 37, 38, 39, 40, 41, 42, 43, 44, 45, 46, 47, 48, 49, 50, 51, 52, 53, 54, 55, 56, 57, 58, 59, 60, 61, 62, 63, 64, 65, 66])
  .ret))⟩
abbrev n_proofmarkref10_rows : Nat := 21
/- proofmark/proofmarkref10.is -/
def proofmarkref10_is_r0 : AT := (.wr false (some 3) none (.box 65 (.t 1))
 (.rd (some 4) none (.mov (.c (.bool false)))
 .done))
def proofmarkref10_is_r1 : AT := (.rd (some 5) none (.faddr 0 (.t 3))
 (.rd (some 6) none (.load false 1 (.t 5))
 .done))
def proofmarkref10_is_r2 : AT := (.rd (some 8) none (.bin .eql (.t 6) (.c (.int .u8 69)))
 (.rd (some 7) none (.mov (.t 8))
 .done))
def proofmarkref10_is_r3 : AT := (.rd (some 9) none (.mov (.t 0))
 (.rd (some 10) none (.faddr 2 (.t 3))
 (.rd (some 11) none (.load false 1 (.t 10))
 (.rd (some 12) none (.bin .eql (.t 9) (.t 11))
 (.rd (some 13) none (.mov (.t 12))
 (.rd (some 14) (some (13, true)) (.faddr 1 (.t 3))
 (.rd (some 15) (some (13, true)) (.load false 1 (.t 14))
 (.rd (some 16) (some (13, true)) (.bin .eql (.t 15) (.c (.str [101, 99, 97, 108, 108])))
 (.rd (some 17) none (.pick (.t 13) (.t 16) (.c (.bool false)))
 (.rd (some 18) none (.mov (.t 17))
 (.rd (some 19) (some (18, false)) (.mov (.t 0))
 (.rd (some 20) (some (18, false)) (.bin .eql (.t 19) (.c (.int .u32 1048691)))
 (.rd (some 21) (some (18, false)) (.mov (.t 20))
 (.rd (some 22) (some (21, true)) (.faddr 1 (.t 3))
 (.rd (some 23) (some (21, true)) (.load false 1 (.t 22))
 (.rd (some 24) (some (21, true)) (.bin .eql (.t 23) (.c (.str [101, 98, 114, 101, 97, 107])))
 (.rd (some 25) (some (18, false)) (.pick (.t 21) (.t 24) (.c (.bool false)))
 (.rd (some 26) none (.pick (.t 18) (.c (.bool true)) (.t 25))
 (.rd (some 4) none (.mov (.t 26))
 .done)))))))))))))))))))
def proofmarkref10_is_r4 : AT := (.rd (some 28) none (.bin .eql (.t 6) (.c (.int .u8 85)))
 (.rd (some 27) none (.mov (.t 28))
 .done))
def proofmarkref10_is_r5 : AT := (.rd (some 29) none (.bin .eql (.t 6) (.c (.int .u8 74)))
 (.rd (some 27) none (.mov (.t 29))
 .done))
def proofmarkref10_is_r6 : AT := (.rd (some 30) none (.mov (.t 0))
 (.rd (some 32) none (.faddr 2 (.t 3))
 (.rd (some 33) none (.load false 1 (.t 32))
 (.cl true (some 31) none (.c (.fn (.func 25) [] [])) [(.t 30), (.c (.int .i64 0)), (.c (.int .i64 7))]
 (.rd (some 34) none (.bin .eql (.t 31) (.t 33))
 (.rd (some 4) none (.mov (.t 34))
 .done))))))
def proofmarkref10_is_r7 : AT := (.rd (some 36) none (.bin .eql (.t 6) (.c (.int .u8 72)))
 (.rd (some 35) none (.mov (.t 36))
 .done))
def proofmarkref10_is_r8 : AT := (.rd (some 37) none (.mov (.t 0))
 (.rd (some 39) none (.faddr 2 (.t 3))
 (.rd (some 40) none (.load false 1 (.t 39))
 (.cl true (some 38) none (.c (.fn (.func 25) [] [])) [(.t 37), (.c (.int .i64 0)), (.c (.int .i64 7))]
 (.rd (some 41) none (.bin .eql (.t 38) (.t 40))
 (.rd (some 42) none (.mov (.t 41))
 (.rd (some 43) (some (42, true)) (.mov (.t 0))
 (.rd (some 45) (some (42, true)) (.faddr 3 (.t 3))
 (.rd (some 46) (some (42, true)) (.load false 1 (.t 45))
 (.cl true (some 44) (some (42, true)) (.c (.fn (.func 25) [] [])) [(.t 43), (.c (.int .i64 12)), (.c (.int .i64 3))]
 (.rd (some 47) (some (42, true)) (.bin .eql (.t 44) (.t 46))
 (.rd (some 48) none (.pick (.t 42) (.t 47) (.c (.bool false)))
 (.rd (some 49) none (.mov (.t 48))
 (.rd (some 50) (some (49, true)) (.mov (.t 0))
 (.rd (some 52) (some (49, true)) (.faddr 4 (.t 3))
 (.rd (some 53) (some (49, true)) (.load false 1 (.t 52))
 (.rd (some 54) (some (49, true)) (.bin .shr (.t 53) (.c (.int .u64 1)))
 (.cl true (some 51) (some (49, true)) (.c (.fn (.func 25) [] [])) [(.t 50), (.c (.int .i64 26)), (.c (.int .i64 6))]
 (.rd (some 55) (some (49, true)) (.bin .eql (.t 51) (.t 54))
 (.rd (some 56) none (.pick (.t 49) (.t 55) (.c (.bool false)))
 (.rd (some 4) none (.mov (.t 56))
 .done)))))))))))))))))))))
def proofmarkref10_is_r9 : AT := (.rd (some 58) none (.bin .eql (.t 6) (.c (.int .u8 82)))
 (.rd (some 57) none (.mov (.t 58))
 .done))
def proofmarkref10_is_r10 : AT := (.rd (some 59) none (.bin .eql (.t 6) (.c (.int .u8 87)))
 (.rd (some 57) none (.mov (.t 59))
 .done))
def proofmarkref10_is_r11 : AT := (.rd (some 60) none (.mov (.t 0))
 (.rd (some 62) none (.faddr 2 (.t 3))
 (.rd (some 63) none (.load false 1 (.t 62))
 (.cl true (some 61) none (.c (.fn (.func 25) [] [])) [(.t 60), (.c (.int .i64 0)), (.c (.int .i64 7))]
 (.rd (some 64) none (.bin .eql (.t 61) (.t 63))
 (.rd (some 65) none (.mov (.t 64))
 (.rd (some 66) (some (65, true)) (.mov (.t 0))
 (.rd (some 68) (some (65, true)) (.faddr 3 (.t 3))
 (.rd (some 69) (some (65, true)) (.load false 1 (.t 68))
 (.cl true (some 67) (some (65, true)) (.c (.fn (.func 25) [] [])) [(.t 66), (.c (.int .i64 12)), (.c (.int .i64 3))]
 (.rd (some 70) (some (65, true)) (.bin .eql (.t 67) (.t 69))
 (.rd (some 71) none (.pick (.t 65) (.t 70) (.c (.bool false)))
 (.rd (some 72) none (.mov (.t 71))
 (.rd (some 73) (some (72, true)) (.mov (.t 0))
 (.rd (some 75) (some (72, true)) (.faddr 4 (.t 3))
 (.rd (some 76) (some (72, true)) (.load false 1 (.t 75))
 (.cl true (some 74) (some (72, true)) (.c (.fn (.func 25) [] [])) [(.t 73), (.c (.int .i64 25)), (.c (.int .i64 7))]
 (.rd (some 77) (some (72, true)) (.bin .eql (.t 74) (.t 76))
 (.rd (some 78) none (.pick (.t 72) (.t 77) (.c (.bool false)))
 (.rd (some 4) none (.mov (.t 78))
 .done))))))))))))))))))))
def proofmarkref10_is_r12 : AT := (.rd (some 79) none (.mov (.t 0))
 (.rd (some 81) none (.faddr 2 (.t 3))
 (.rd (some 82) none (.load false 1 (.t 81))
 (.cl true (some 80) none (.c (.fn (.func 25) [] [])) [(.t 79), (.c (.int .i64 0)), (.c (.int .i64 7))]
 (.rd (some 83) none (.bin .eql (.t 80) (.t 82))
 (.rd (some 84) none (.mov (.t 83))
 (.rd (some 85) (some (84, true)) (.mov (.t 0))
 (.rd (some 87) (some (84, true)) (.faddr 3 (.t 3))
 (.rd (some 88) (some (84, true)) (.load false 1 (.t 87))
 (.cl true (some 86) (some (84, true)) (.c (.fn (.func 25) [] [])) [(.t 85), (.c (.int .i64 12)), (.c (.int .i64 3))]
 (.rd (some 89) (some (84, true)) (.bin .eql (.t 86) (.t 88))
 (.rd (some 90) none (.pick (.t 84) (.t 89) (.c (.bool false)))
 (.rd (some 4) none (.mov (.t 90))
 .done)))))))))))))
def proofmarkref10_is : AF := ⟨91, [.tmp 4],
  (.seq (.reg proofmarkref10_is_r0 [])
  (.seq (.seq (.reg proofmarkref10_is_r1 [5])
  (.block 0 (.seq (.reg proofmarkref10_is_r2 [8])
  (.cond (.t 7)
  (.seq (.reg proofmarkref10_is_r3 [9, 10, 11, 12, 13, 14, 15, 16, 17, 18, 19, 20, 21, 22, 23, 24, 25, 26])
  .ret)
  (.seq (.seq (.reg proofmarkref10_is_r4 [28])
  (.cond (.t 27)
  .skip
  (.reg proofmarkref10_is_r5 [29])))
  (.cond (.t 27)
  (.seq (.reg proofmarkref10_is_r6 [30, 31, 32, 33, 34])
  .ret)
  (.seq (.reg proofmarkref10_is_r7 [36])
  (.cond (.t 35)
  (.seq (.reg proofmarkref10_is_r8 [37, 38, 39, 40, 41, 42, 43, 44, 45, 46, 47, 48, 49, 50, 51, 52, 53, 54, 55, 56])
  .ret)
  (.seq (.seq (.reg proofmarkref10_is_r9 [58])
  (.cond (.t 57)
  .skip
  (.reg proofmarkref10_is_r10 [59])))
  (.cond (.t 57)
  (.seq (.reg proofmarkref10_is_r11 [60, 61, 62, 63, 64, 65, 66, 67, 68, 69, 70, 71, 72, 73, 74, 75, 76, 77, 78])
  .ret)
  .skip))))))))))
  (.seq (.reg proofmarkref10_is_r12 [79, 80, 81, 82, 83, 84, 85, 86, 87, 88, 89, 90])
  .ret)))⟩
abbrev n_proofmarkref10_is : Nat := 22
/- proofmark/proofmarkref10.number -/
def proofmarkref10_number_r0 : AT := (.rd (some 4) none (.mov (.c (.int .i64 0)))
 .done)
def proofmarkref10_number_r1 : AT := (.rd (some 5) none (.mov (.t 1))
 .done)
def proofmarkref10_number_r2 : AT := (.rd (some 7) none (.bin .eql (.t 5) (.c (.int .u8 73)))
 (.rd (some 6) none (.mov (.t 7))
 .done))
def proofmarkref10_number_r3 : AT := (.rd (some 8) none (.mov (.t 0))
 (.cl false (some 9) none (.c (.fn (.func 25) [] [])) [(.t 8), (.c (.int .i64 20)), (.c (.int .i64 12))]
 (.rd (some 10) none (.conv .i64 (.t 9))
 (.cl false (some 11) none (.c (.fn (.func 47) [] [])) [(.t 10), (.c (.int .i64 12))]
 (.rd (some 4) none (.mov (.t 11))
 .done)))))
def proofmarkref10_number_r4 : AT := (.rd (some 13) none (.bin .eql (.t 5) (.c (.int .u8 72)))
 (.rd (some 12) none (.mov (.t 13))
 .done))
def proofmarkref10_number_r5 : AT := (.rd (some 14) none (.mov (.t 0))
 (.cl false (some 15) none (.c (.fn (.func 25) [] [])) [(.t 14), (.c (.int .i64 20)), (.c (.int .i64 6))]
 (.rd (some 16) none (.conv .i64 (.t 15))
 (.rd (some 4) none (.mov (.t 16))
 .done))))
def proofmarkref10_number_r6 : AT := (.rd (some 18) none (.bin .eql (.t 5) (.c (.int .u8 87)))
 (.rd (some 17) none (.mov (.t 18))
 .done))
def proofmarkref10_number_r7 : AT := (.rd (some 19) none (.mov (.t 0))
 (.cl false (some 20) none (.c (.fn (.func 25) [] [])) [(.t 19), (.c (.int .i64 20)), (.c (.int .i64 5))]
 (.rd (some 21) none (.conv .i64 (.t 20))
 (.rd (some 4) none (.mov (.t 21))
 .done))))
def proofmarkref10_number_r8 : AT := (.rd (some 23) none (.bin .eql (.t 5) (.c (.int .u8 83)))
 (.rd (some 22) none (.mov (.t 23))
 .done))
def proofmarkref10_number_r9 : AT := (.rd (some 24) none (.mov (.t 0))
 (.cl false (some 25) none (.c (.fn (.func 25) [] [])) [(.t 24), (.c (.int .i64 25)), (.c (.int .i64 7))]
 (.rd (some 26) none (.bin .shl (.t 25) (.c (.int .u64 5)))
 (.rd (some 27) none (.mov (.t 0))
 (.cl false (some 28) none (.c (.fn (.func 25) [] [])) [(.t 27), (.c (.int .i64 7)), (.c (.int .i64 5))]
 (.rd (some 29) none (.bin .or (.t 26) (.t 28))
 (.rd (some 30) none (.conv .i64 (.t 29))
 (.cl false (some 31) none (.c (.fn (.func 47) [] [])) [(.t 30), (.c (.int .i64 12))]
 (.rd (some 4) none (.mov (.t 31))
 .done)))))))))
def proofmarkref10_number_r10 : AT := (.rd (some 33) none (.bin .eql (.t 5) (.c (.int .u8 66)))
 (.rd (some 32) none (.mov (.t 33))
 .done))
def proofmarkref10_number_r11 : AT := (.rd (some 34) none (.mov (.t 0))
 (.cl false (some 35) none (.c (.fn (.func 25) [] [])) [(.t 34), (.c (.int .i64 31)), (.c (.int .i64 1))]
 (.rd (some 36) none (.bin .shl (.t 35) (.c (.int .u64 12)))
 (.rd (some 37) none (.mov (.t 0))
 (.cl false (some 38) none (.c (.fn (.func 25) [] [])) [(.t 37), (.c (.int .i64 7)), (.c (.int .i64 1))]
 (.rd (some 39) none (.bin .shl (.t 38) (.c (.int .u64 11)))
 (.rd (some 40) none (.bin .or (.t 36) (.t 39))
 (.rd (some 41) none (.mov (.t 0))
 (.cl false (some 42) none (.c (.fn (.func 25) [] [])) [(.t 41), (.c (.int .i64 25)), (.c (.int .i64 6))]
 (.rd (some 43) none (.bin .shl (.t 42) (.c (.int .u64 5)))
 (.rd (some 44) none (.bin .or (.t 40) (.t 43))
 (.rd (some 45) none (.mov (.t 0))
 (.cl false (some 46) none (.c (.fn (.func 25) [] [])) [(.t 45), (.c (.int .i64 8)), (.c (.int .i64 4))]
 (.rd (some 47) none (.bin .shl (.t 46) (.c (.int .u64 1)))
 (.rd (some 48) none (.bin .or (.t 44) (.t 47))
 (.rd (some 49) none (.conv .i64 (.t 48))
 (.cl false (some 50) none (.c (.fn (.func 47) [] [])) [(.t 49), (.c (.int .i64 13))]
 (.rd (some 4) none (.mov (.t 50))
 .done))))))))))))))))))
def proofmarkref10_number_r12 : AT := (.rd (some 52) none (.bin .eql (.t 5) (.c (.int .u8 85)))
 (.rd (some 51) none (.mov (.t 52))
 .done))
def proofmarkref10_number_r13 : AT := (.rd (some 53) none (.mov (.t 0))
 (.cl false (some 54) none (.c (.fn (.func 25) [] [])) [(.t 53), (.c (.int .i64 12)), (.c (.int .i64 20))]
 (.rd (some 55) none (.conv .i64 (.t 54))
 (.rd (some 56) none (.bin .shl (.t 55) (.c (.int .u64 12)))
 (.cl false (some 57) none (.c (.fn (.func 47) [] [])) [(.t 56), (.c (.int .i64 32))]
 (.rd (some 4) none (.mov (.t 57))
 .done))))))
def proofmarkref10_number_r14 : AT := (.rd (some 59) none (.bin .eql (.t 5) (.c (.int .u8 74)))
 (.rd (some 58) none (.mov (.t 59))
 .done))
def proofmarkref10_number_r15 : AT := (.rd (some 60) none (.mov (.t 0))
 (.cl false (some 61) none (.c (.fn (.func 25) [] [])) [(.t 60), (.c (.int .i64 31)), (.c (.int .i64 1))]
 (.rd (some 62) none (.bin .shl (.t 61) (.c (.int .u64 20)))
 (.rd (some 63) none (.mov (.t 0))
 (.cl false (some 64) none (.c (.fn (.func 25) [] [])) [(.t 63), (.c (.int .i64 12)), (.c (.int .i64 8))]
 (.rd (some 65) none (.bin .shl (.t 64) (.c (.int .u64 12)))
 (.rd (some 66) none (.bin .or (.t 62) (.t 65))
 (.rd (some 67) none (.mov (.t 0))
 (.cl false (some 68) none (.c (.fn (.func 25) [] [])) [(.t 67), (.c (.int .i64 20)), (.c (.int .i64 1))]
 (.rd (some 69) none (.bin .shl (.t 68) (.c (.int .u64 11)))
 (.rd (some 70) none (.bin .or (.t 66) (.t 69))
 (.rd (some 71) none (.mov (.t 0))
 (.cl false (some 72) none (.c (.fn (.func 25) [] [])) [(.t 71), (.c (.int .i64 21)), (.c (.int .i64 10))]
 (.rd (some 73) none (.bin .shl (.t 72) (.c (.int .u64 1)))
 (.rd (some 74) none (.bin .or (.t 70) (.t 73))
 (.rd (some 75) none (.conv .i64 (.t 74))
 (.cl false (some 76) none (.c (.fn (.func 47) [] [])) [(.t 75), (.c (.int .i64 21))]
 (.rd (some 4) none (.mov (.t 76))
 .done))))))))))))))))))
def proofmarkref10_number_r16 : AT := (.rd (some 4) none (.mov (.c (.int .i64 0)))
 .done)
def proofmarkref10_number : AF := ⟨77, [.tmp 4],
  (.seq (.reg proofmarkref10_number_r0 [])
  (.seq (.seq (.reg proofmarkref10_number_r1 [])
  (.block 0 (.seq (.reg proofmarkref10_number_r2 [7])
  (.cond (.t 6)
  (.seq (.reg proofmarkref10_number_r3 [8, 9, 10, 11])
  .ret)
  (.seq (.reg proofmarkref10_number_r4 [13])
  (.cond (.t 12)
  (.seq (.reg proofmarkref10_number_r5 [14, 15, 16])
  .ret)
  (.seq (.reg proofmarkref10_number_r6 [18])
  (.cond (.t 17)
  (.seq (.reg proofmarkref10_number_r7 [19, 20, 21])
  .ret)
  (.seq (.reg proofmarkref10_number_r8 [23])
  (.cond (.t 22)
  (.seq (.reg proofmarkref10_number_r9 [24, 25, 26, 27, 28, 29, 30, 31])
  .ret)
  (.seq (.reg proofmarkref10_number_r10 [33])
  (.cond (.t 32)
  (.seq (.reg proofmarkref10_number_r11 [34, 35, 36, 37, 38, 39, 40, 41, 42, 43, 44, 45, 46, 47, 48, 49, 50])
  .ret)
  (.seq (.reg proofmarkref10_number_r12 [52])
  (.cond (.t 51)
  (.seq (.reg proofmarkref10_number_r13 [53, 54, 55, 56, 57])
  .ret)
  (.seq (.reg proofmarkref10_number_r14 [59])
  (.cond (.t 58)
  (.seq (.reg proofmarkref10_number_r15 [60, 61, 62, 63, 64, 65, 66, 67, 68, 69, 70, 71, 72, 73, 74, 75, 76])
  .ret)
  .skip))))))))))))))))
  (.seq (.reg proofmarkref10_number_r16 [])
  .ret)))⟩
abbrev n_proofmarkref10_number : Nat := 23
/- proofmark/proofmarkref10.has -/
def proofmarkref10_has_r0 : AT := (.rd (some 2) none (.mov (.c (.bool false)))
 (.rd (some 3) none (.mov (.c (.bool false)))
 (.rd (some 4) none (.mov (.c (.bool false)))
 .done)))
def proofmarkref10_has_r1 : AT := (.rd (some 5) none (.mov (.t 0))
 .done)
def proofmarkref10_has_r2 : AT := (.rd (some 7) none (.bin .eql (.t 5) (.c (.int .u8 82)))
 (.rd (some 6) none (.mov (.t 7))
 .done))
def proofmarkref10_has_r3 : AT := (.rd (some 2) none (.mov (.c (.bool true)))
 (.rd (some 3) none (.mov (.c (.bool true)))
 (.rd (some 4) none (.mov (.c (.bool true)))
 .done)))
def proofmarkref10_has_r4 : AT := (.rd (some 9) none (.bin .eql (.t 5) (.c (.int .u8 73)))
 (.rd (some 8) none (.mov (.t 9))
 .done))
def proofmarkref10_has_r5 : AT := (.rd (some 10) none (.bin .eql (.t 5) (.c (.int .u8 72)))
 (.rd (some 8) none (.mov (.t 10))
 .done))
def proofmarkref10_has_r6 : AT := (.rd (some 11) none (.bin .eql (.t 5) (.c (.int .u8 87)))
 (.rd (some 8) none (.mov (.t 11))
 .done))
def proofmarkref10_has_r7 : AT := (.rd (some 2) none (.mov (.c (.bool true)))
 (.rd (some 3) none (.mov (.c (.bool true)))
 (.rd (some 4) none (.mov (.c (.bool false)))
 .done)))
def proofmarkref10_has_r8 : AT := (.rd (some 13) none (.bin .eql (.t 5) (.c (.int .u8 83)))
 (.rd (some 12) none (.mov (.t 13))
 .done))
def proofmarkref10_has_r9 : AT := (.rd (some 14) none (.bin .eql (.t 5) (.c (.int .u8 66)))
 (.rd (some 12) none (.mov (.t 14))
 .done))
def proofmarkref10_has_r10 : AT := (.rd (some 2) none (.mov (.c (.bool false)))
 (.rd (some 3) none (.mov (.c (.bool true)))
 (.rd (some 4) none (.mov (.c (.bool true)))
 .done)))
def proofmarkref10_has_r11 : AT := (.rd (some 16) none (.bin .eql (.t 5) (.c (.int .u8 85)))
 (.rd (some 15) none (.mov (.t 16))
 .done))
def proofmarkref10_has_r12 : AT := (.rd (some 17) none (.bin .eql (.t 5) (.c (.int .u8 74)))
 (.rd (some 15) none (.mov (.t 17))
 .done))
def proofmarkref10_has_r13 : AT := (.rd (some 2) none (.mov (.c (.bool true)))
 (.rd (some 3) none (.mov (.c (.bool false)))
 (.rd (some 4) none (.mov (.c (.bool false)))
 .done)))
def proofmarkref10_has_r14 : AT := (.rd (some 2) none (.mov (.c (.bool false)))
 (.rd (some 3) none (.mov (.c (.bool false)))
 (.rd (some 4) none (.mov (.c (.bool false)))
 .done)))
def proofmarkref10_has : AF := ⟨18, [.tmp 2, .tmp 3, .tmp 4],
  (.seq (.reg proofmarkref10_has_r0 [])
  (.seq (.seq (.reg proofmarkref10_has_r1 [])
  (.block 0 (.seq (.reg proofmarkref10_has_r2 [7])
  (.cond (.t 6)
  (.seq (.reg proofmarkref10_has_r3 [])
  .ret)
  (.seq (.seq (.reg proofmarkref10_has_r4 [9])
  (.cond (.t 8)
  .skip
  (.seq (.reg proofmarkref10_has_r5 [10])
  (.cond (.t 8)
  .skip
  (.reg proofmarkref10_has_r6 [11])))))
  (.cond (.t 8)
  (.seq (.reg proofmarkref10_has_r7 [])
  .ret)
  (.seq (.seq (.reg proofmarkref10_has_r8 [13])
  (.cond (.t 12)
  .skip
  (.reg proofmarkref10_has_r9 [14])))
  (.cond (.t 12)
  (.seq (.reg proofmarkref10_has_r10 [])
  .ret)
  (.seq (.seq (.reg proofmarkref10_has_r11 [16])
  (.cond (.t 15)
  .skip
  (.reg proofmarkref10_has_r12 [17])))
  (.cond (.t 15)
  (.seq (.reg proofmarkref10_has_r13 [])
  .ret)
  .skip))))))))))
  (.seq (.reg proofmarkref10_has_r14 [])
  .ret)))⟩
abbrev n_proofmarkref10_has : Nat := 24
/- proofmark/proofmarkref10.field -/
def proofmarkref10_field_r0 : AT := (.rd (some 6) none (.mov (.c (.int .u32 0)))
 .done)
def proofmarkref10_field_r1 : AT := (.rd (some 7) none (.mov (.t 0))
 (.rd (some 8) none (.mov (.t 1))
 (.rd (some 9) none (.bin .shr (.t 7) (.t 8))
 (.rd (some 10) none (.mov (.t 2))
 (.rd (some 11) none (.bin .shl (.c (.int .u32 1)) (.t 10))
 (.rd (some 12) none (.bin .sub (.t 11) (.c (.int .u32 1)))
 (.rd (some 13) none (.bin .and (.t 9) (.t 12))
 (.rd (some 6) none (.mov (.t 13))
 .done))))))))
def proofmarkref10_field : AF := ⟨14, [.tmp 6],
  (.seq (.reg proofmarkref10_field_r0 [])
  (.seq (.reg proofmarkref10_field_r1 [7, 8, 9, 10, 11, 12, 13])
  .ret))⟩
abbrev n_proofmarkref10_field : Nat := 25
/- proofmark/rv.of -/
def rv_of_r0 : AT := (.wr false (some 2) none (.new 48 [(.bool false), (.bool false), (.bool false), (.lst 0 [] true), (.int .i64 0), (.bool false), (.int .u32 0), (.str []), (.int .u32 0)])
 (.rd (some 3) none (.mov (.c (.bool false)))
 .done))
def rv_of_r1 : AT := (.cl false (some 5) none (.c (.fn (.func 16) [] [])) []
 (.wr false (some 4) none (.new 49 (List.replicate 66 [(.bool false), (.bool false), (.bool false), (.lst 0 [] true), (.int .i64 0), (.bool false), (.int .u32 0), (.str []), (.int .u32 0)]).flatten)
 (.wr false none none (.store 594 (.t 4) (.t 5))
 .done)))
def rv_of_r2 : AT := (.rd (some 6) none (.mov (.t 0))
 (.rd (some 7) none (.bin .lss (.t 6) (.c (.int .u8 1)))
 (.rd (some 8) none (.mov (.t 7))
 (.rd (some 9) (some (8, false)) (.mov (.t 0))
 (.rd (some 10) (some (8, false)) (.conv .i64 (.t 9))
 (.rd (some 11) (some (8, false)) (.bin .geq (.t 10) (.c (.int .i64 66)))
 (.rd (some 12) none (.pick (.t 8) (.c (.bool true)) (.t 11))
 .done)))))))
def rv_of_r3 : AT := (.rd (some 13) none (.build [(.bool false), (.bool false), (.bool false), (.lst 0 [] true), (.int .i64 0), (.bool false), (.int .u32 0), (.str []), (.int .u32 0)] [])
 (.wr false none none (.store 9 (.t 2) (.t 13))
 (.rd (some 3) none (.mov (.c (.bool false)))
 .done)))
def rv_of_r4 : AT := (.rd (some 14) none (.mov (.t 0))
 (.rd (some 15) none (.iaddr (some 66) 9 (.t 4) (.t 14))
 (.rd (some 16) none (.load true 9 (.t 15))
 (.wr false none none (.store 9 (.t 2) (.t 16))
 (.rd (some 3) none (.mov (.c (.bool true)))
 .done)))))
def rv_of : AF := ⟨17, [.cell 2 true 9, .tmp 3],
  (.seq (.reg rv_of_r0 [])
  (.seq (.reg rv_of_r1 [5])
  (.seq (.seq (.reg rv_of_r2 [6, 7, 8, 9, 10, 11])
  (.cond (.t 12)
  (.seq (.reg rv_of_r3 [13])
  .ret)
  .skip))
  (.seq (.reg rv_of_r4 [14, 15, 16])
  .ret))))⟩
abbrev n_rv_of : Nat := 26
/- proofmark/rv.Encode$1 -/
def rv_Encode_S1_r0 : AT := (.rd (some 4) none (.mov (.c (.bool false)))
 .done)
def rv_Encode_S1_r1 : AT := (.rd (some 5) none (.mov (.t 1))
 (.rd (some 6) none (.bin .lss (.t 5) (.c (.int .u8 32)))
 (.rd (some 7) none (.mov (.t 6))
 (.rd (some 8) (some (7, true)) (.mov (.t 0))
 (.rd (some 9) (some (7, true)) (.mov (.t 8))
 (.rd (some 10) (some (9, false)) (.mov (.t 1))
 (.rd (some 11) (some (9, false)) (.bin .eql (.t 10) (.c (.int .u8 0)))
 (.rd (some 12) (some (7, true)) (.pick (.t 9) (.c (.bool true)) (.t 11))
 (.rd (some 13) none (.pick (.t 7) (.t 12) (.c (.bool false)))
 (.rd (some 4) none (.mov (.t 13))
 .done))))))))))
def rv_Encode_S1 : AF := ⟨14, [.tmp 4],
  (.seq (.reg rv_Encode_S1_r0 [])
  (.seq (.reg rv_Encode_S1_r1 [5, 6, 7, 8, 9, 10, 11, 12, 13])
  .ret))⟩
abbrev n_rv_Encode_S1 : Nat := 27
/- (proofmark/rv.form).fits -/
def rv_form_fits_r0 : AT := (.wr false (some 2) none (.box 46 (.t 0))
 (.rd (some 4) none (.mov (.c (.bool false)))
 .done))
def rv_form_fits_r1 : AT := (.rd (some 7) none (.load true 7 (.t 2))
 (.cl false (some 8) none (.c (.fn (.func 46) [] [])) [(.t 7)]
 (.rd (some 9) none (.bin .shl (.c (.int .i64 1)) (.t 8))
 (.rd (some 5) none (.mov (.c (.int .i64 0)))
 (.rd (some 6) none (.mov (.t 9))
 .done)))))
def rv_form_fits_r2 : AT := (.rd (some 10) none (.faddr 5 (.t 2))
 (.rd (some 11) none (.load false 1 (.t 10))
 .done))
def rv_form_fits_r3 : AT := (.rd (some 12) none (.mov (.t 6))
 (.rd (some 13) none (.un .neg (.t 12))
 (.rd (some 14) none (.bin .quo (.t 13) (.c (.int .i64 2)))
 (.rd (some 15) none (.mov (.t 6))
 (.rd (some 16) none (.bin .quo (.t 15) (.c (.int .i64 2)))
 (.rd (some 5) none (.mov (.t 14))
 (.rd (some 6) none (.mov (.t 16))
 .done)))))))
def rv_form_fits_r4 : AT := (.rd (some 17) none (.mov (.t 1))
 (.rd (some 18) none (.mov (.t 5))
 (.rd (some 19) none (.bin .geq (.t 17) (.t 18))
 (.rd (some 20) none (.mov (.t 19))
 (.rd (some 21) (some (20, true)) (.mov (.t 1))
 (.rd (some 22) (some (20, true)) (.mov (.t 6))
 (.rd (some 23) (some (20, true)) (.bin .lss (.t 21) (.t 22))
 (.rd (some 24) none (.pick (.t 20) (.t 23) (.c (.bool false)))
 (.rd (some 25) none (.mov (.t 24))
 (.rd (some 26) (some (25, true)) (.mov (.t 1))
 (.rd (some 27) (some (25, true)) (.faddr 4 (.t 2))
 (.rd (some 28) (some (25, true)) (.load false 1 (.t 27))
 (.rd (some 29) (some (25, true)) (.bin .shl (.c (.int .i64 1)) (.t 28))
 (.rd (some 30) (some (25, true)) (.bin .sub (.t 29) (.c (.int .i64 1)))
 (.rd (some 31) (some (25, true)) (.bin .and (.t 26) (.t 30))
 (.rd (some 32) (some (25, true)) (.bin .eql (.t 31) (.c (.int .i64 0)))
 (.rd (some 33) none (.pick (.t 25) (.t 32) (.c (.bool false)))
 (.rd (some 4) none (.mov (.t 33))
 .done))))))))))))))))))
def rv_form_fits : AF := ⟨34, [.tmp 4],
  (.seq (.reg rv_form_fits_r0 [])
  (.seq (.reg rv_form_fits_r1 [7, 8, 9])
  (.seq (.seq (.reg rv_form_fits_r2 [10])
  (.cond (.t 11)
  (.reg rv_form_fits_r3 [12, 13, 14, 15, 16])
  .skip))
  (.seq (.reg rv_form_fits_r4 [17, 18, 19, 20, 21, 22, 23, 24, 25, 26, 27, 28, 29, 30, 31, 32, 33])
  .ret))))⟩
abbrev n_rv_form_fits : Nat := 28
/- proofmark/rv.together -/
def rv_together_r0 : AT := (.rd (some 2) none (.mov (.c (.int .u32 0)))
 .done)
def rv_together_r1 : AT := (.rd (some 3) none (.mov (.c (.int .u32 0)))
 .done)
def rv_together_r2 : AT := (.rd (some 6) none (.mov (.t 0))
 (.rd (some 7) none (.len 0 (.t 6))
 (.rd (some 8) none (.mov (.c (.int .i64 0)))
 .done)))
def rv_together_r3 : AT := (.rd (some 9) none (.bin .lss (.t 8) (.t 7))
 .done)
def rv_together_r4 : AT := (.rd (some 10) none (.iaddr none 1 (.t 6) (.t 8))
 (.rd (some 11) none (.load false 1 (.t 10))
 (.rd (some 5) none (.mov (.t 11))
 .done)))
def rv_together_r5 : AT := (.rd (some 12) none (.mov (.t 3))
 (.rd (some 13) none (.mov (.t 5))
 (.rd (some 14) none (.bin .or (.t 12) (.t 13))
 (.rd (some 3) none (.mov (.t 14))
 .done))))
def rv_together_r6 : AT := (.rd (some 15) none (.bin .add (.t 8) (.c (.int .i64 1)))
 (.rd (some 8) none (.mov (.t 15))
 .done))
def rv_together_r7 : AT := (.rd (some 16) none (.mov (.t 3))
 (.rd (some 2) none (.mov (.t 16))
 .done))
def rv_together : AF := ⟨17, [.tmp 2],
  (.seq (.reg rv_together_r0 [])
  (.seq (.reg rv_together_r1 [])
  (.seq (.seq (.reg rv_together_r2 [])
  (.block 0 (.loop (.seq (.reg rv_together_r3 [])
  (.seq (.cond (.t 9)
  .skip
  (.exit 0))
  (.seq (.block 1 (.seq (.reg rv_together_r4 [10, 11])
  (.reg rv_together_r5 [12, 13, 14])))
  (.reg rv_together_r6 [15])))))))
  (.seq (.reg rv_together_r7 [16])
  .ret))))⟩
abbrev n_rv_together : Nat := 29
/- (proofmark/rv.form).spread -/
def rv_form_spread_r0 : AT := (.wr false (some 2) none (.box 46 (.t 0))
 (.wr false (some 3) none (.box 2 (.t 1))
 (.rd (some 4) none (.mov (.c (.int .u32 0)))
 .done)))
def rv_form_spread_r1 : AT := (.wr false (some 5) none (.new 22 [(.int .u32 0)])
 (.wr false none none (.store 1 (.t 5) (.c (.int .u32 0)))
 .done))
def rv_form_spread_r2 : AT := (.rd (some 8) none (.load false 1 (.t 3))
 (.rd (some 9) none (.faddr 4 (.t 2))
 (.rd (some 10) none (.load false 1 (.t 9))
 (.rd (some 11) none (.bin .shr (.t 8) (.t 10))
 (.wr false none none (.store 1 (.t 3) (.t 11))
 .done)))))
def rv_form_spread_r3 : AT := (.rd (some 12) none (.faddr 3 (.t 2))
 (.rd (some 13) none (.load false 1 (.t 12))
 (.cl false (some 14) none (.c (.fn (.func 48) [] [])) [(.t 13)]
 .done)))
def rv_form_spread_r4 : AT := (.rd (some 33) none (.load false 1 (.t 5))
 (.rd (some 4) none (.mov (.t 33))
 .done))
def rv_form_spread : AF := ⟨34, [.tmp 4],
  (.seq (.reg rv_form_spread_r0 [])
  (.seq (.reg rv_form_spread_r1 [])
  (.seq (.reg rv_form_spread_r2 [8, 9, 10, 11])
  (.seq (.seq (.reg rv_form_spread_r3 [12, 13])
  (.block 0 .bad))
  (.seq (.reg rv_form_spread_r4 [33])
  .ret)))))⟩
abbrev n_rv_form_spread : Nat := 30
/- proofmark/proofmarkref10.row -/
def proofmarkref10_row_r0 : AT := (.wr false (some 2) none (.new 65 [(.int .u8 0), (.str []), (.int .u32 0), (.int .u32 0), (.int .u32 0)])
 .done)
def proofmarkref10_row_r1 : AT := (.cl false (some 4) none (.c (.fn (.func 21) [] [])) []
 (.rd (some 3) none (.mov (.t 4))
 .done))
def proofmarkref10_row_r2 : AT := (.rd (some 5) none (.mov (.t 0))
 (.rd (some 6) none (.bin .lss (.t 5) (.c (.int .u8 1)))
 (.rd (some 7) none (.mov (.t 6))
 (.rd (some 8) (some (7, false)) (.mov (.t 0))
 (.rd (some 9) (some (7, false)) (.conv .i64 (.t 8))
 (.rd (some 10) (some (7, false)) (.mov (.t 3))
 (.rd (some 11) (some (7, false)) (.len 0 (.t 10))
 (.rd (some 12) (some (7, false)) (.bin .gtr (.t 9) (.t 11))
 (.rd (some 13) none (.pick (.t 7) (.c (.bool true)) (.t 12))
 .done)))))))))
def proofmarkref10_row_r3 : AT := (.rd (some 14) none (.build [(.int .u8 0), (.str []), (.int .u32 0), (.int .u32 0), (.int .u32 0)] [])
 (.wr false none none (.store 5 (.t 2) (.t 14))
 .done))
def proofmarkref10_row_r4 : AT := (.rd (some 15) none (.mov (.t 3))
 (.rd (some 16) none (.mov (.t 0))
 (.rd (some 17) none (.bin .sub (.t 16) (.c (.int .u8 1)))
 (.rd (some 18) none (.iaddr none 5 (.t 15) (.t 17))
 (.rd (some 19) none (.load true 5 (.t 18))
 (.wr false none none (.store 5 (.t 2) (.t 19))
 .done))))))
def proofmarkref10_row : AF := ⟨20, [.cell 2 true 5],
  (.seq (.reg proofmarkref10_row_r0 [])
  (.seq (.reg proofmarkref10_row_r1 [4])
  (.seq (.seq (.reg proofmarkref10_row_r2 [5, 6, 7, 8, 9, 10, 11, 12])
  (.cond (.t 13)
  (.seq (.reg proofmarkref10_row_r3 [14])
  .ret)
  .skip))
  (.seq (.reg proofmarkref10_row_r4 [15, 16, 17, 18, 19])
  .ret))))⟩
abbrev n_proofmarkref10_row : Nat := 31
/- proofmark/proofmarkref10.room -/
def proofmarkref10_room_r0 : AT := (.rd (some 4) none (.mov (.c (.bool false)))
 .done)
def proofmarkref10_room_r1 : AT := (.rd (some 5) none (.mov (.t 0))
 .done)
def proofmarkref10_room_r2 : AT := (.rd (some 7) none (.bin .eql (.t 5) (.c (.int .u8 73)))
 (.rd (some 6) none (.mov (.t 7))
 .done))
def proofmarkref10_room_r3 : AT := (.rd (some 8) none (.bin .eql (.t 5) (.c (.int .u8 83)))
 (.rd (some 6) none (.mov (.t 8))
 .done))
def proofmarkref10_room_r4 : AT := (.rd (some 9) none (.mov (.t 1))
 (.rd (some 10) none (.bin .geq (.t 9) (.c (.int .i64 (-2048))))
 (.rd (some 11) none (.mov (.t 10))
 (.rd (some 12) (some (11, true)) (.mov (.t 1))
 (.rd (some 13) (some (11, true)) (.bin .leq (.t 12) (.c (.int .i64 2047)))
 (.rd (some 14) none (.pick (.t 11) (.t 13) (.c (.bool false)))
 (.rd (some 4) none (.mov (.t 14))
 .done)))))))
def proofmarkref10_room_r5 : AT := (.rd (some 16) none (.bin .eql (.t 5) (.c (.int .u8 72)))
 (.rd (some 15) none (.mov (.t 16))
 .done))
def proofmarkref10_room_r6 : AT := (.rd (some 17) none (.mov (.t 1))
 (.rd (some 18) none (.bin .geq (.t 17) (.c (.int .i64 0)))
 (.rd (some 19) none (.mov (.t 18))
 (.rd (some 20) (some (19, true)) (.mov (.t 1))
 (.rd (some 21) (some (19, true)) (.bin .leq (.t 20) (.c (.int .i64 63)))
 (.rd (some 22) none (.pick (.t 19) (.t 21) (.c (.bool false)))
 (.rd (some 4) none (.mov (.t 22))
 .done)))))))
def proofmarkref10_room_r7 : AT := (.rd (some 24) none (.bin .eql (.t 5) (.c (.int .u8 87)))
 (.rd (some 23) none (.mov (.t 24))
 .done))
def proofmarkref10_room_r8 : AT := (.rd (some 25) none (.mov (.t 1))
 (.rd (some 26) none (.bin .geq (.t 25) (.c (.int .i64 0)))
 (.rd (some 27) none (.mov (.t 26))
 (.rd (some 28) (some (27, true)) (.mov (.t 1))
 (.rd (some 29) (some (27, true)) (.bin .leq (.t 28) (.c (.int .i64 31)))
 (.rd (some 30) none (.pick (.t 27) (.t 29) (.c (.bool false)))
 (.rd (some 4) none (.mov (.t 30))
 .done)))))))
def proofmarkref10_room_r9 : AT := (.rd (some 32) none (.bin .eql (.t 5) (.c (.int .u8 66)))
 (.rd (some 31) none (.mov (.t 32))
 .done))
def proofmarkref10_room_r10 : AT := (.rd (some 33) none (.mov (.t 1))
 (.rd (some 34) none (.bin .geq (.t 33) (.c (.int .i64 (-4096))))
 (.rd (some 35) none (.mov (.t 34))
 (.rd (some 36) (some (35, true)) (.mov (.t 1))
 (.rd (some 37) (some (35, true)) (.bin .leq (.t 36) (.c (.int .i64 4094)))
 (.rd (some 38) none (.pick (.t 35) (.t 37) (.c (.bool false)))
 (.rd (some 39) none (.mov (.t 38))
 (.rd (some 40) (some (39, true)) (.mov (.t 1))
 (.rd (some 41) (some (39, true)) (.bin .rem (.t 40) (.c (.int .i64 2)))
 (.rd (some 42) (some (39, true)) (.bin .eql (.t 41) (.c (.int .i64 0)))
 (.rd (some 43) none (.pick (.t 39) (.t 42) (.c (.bool false)))
 (.rd (some 4) none (.mov (.t 43))
 .done))))))))))))
def proofmarkref10_room_r11 : AT := (.rd (some 45) none (.bin .eql (.t 5) (.c (.int .u8 85)))
 (.rd (some 44) none (.mov (.t 45))
 .done))
def proofmarkref10_room_r12 : AT := (.rd (some 46) none (.mov (.t 1))
 (.rd (some 47) none (.bin .geq (.t 46) (.c (.int .i64 (-2147483648))))
 (.rd (some 48) none (.mov (.t 47))
 (.rd (some 49) (some (48, true)) (.mov (.t 1))
 (.rd (some 50) (some (48, true)) (.bin .lss (.t 49) (.c (.int .i64 2147483648)))
 (.rd (some 51) none (.pick (.t 48) (.t 50) (.c (.bool false)))
 (.rd (some 52) none (.mov (.t 51))
 (.rd (some 53) (some (52, true)) (.mov (.t 1))
 (.rd (some 54) (some (52, true)) (.bin .rem (.t 53) (.c (.int .i64 4096)))
 (.rd (some 55) (some (52, true)) (.bin .eql (.t 54) (.c (.int .i64 0)))
 (.rd (some 56) none (.pick (.t 52) (.t 55) (.c (.bool false)))
 (.rd (some 4) none (.mov (.t 56))
 .done))))))))))))
def proofmarkref10_room_r13 : AT := (.rd (some 58) none (.bin .eql (.t 5) (.c (.int .u8 74)))
 (.rd (some 57) none (.mov (.t 58))
 .done))
def proofmarkref10_room_r14 : AT := (.rd (some 59) none (.mov (.t 1))
 (.rd (some 60) none (.bin .geq (.t 59) (.c (.int .i64 (-1048576))))
 (.rd (some 61) none (.mov (.t 60))
 (.rd (some 62) (some (61, true)) (.mov (.t 1))
 (.rd (some 63) (some (61, true)) (.bin .lss (.t 62) (.c (.int .i64 1048576)))
 (.rd (some 64) none (.pick (.t 61) (.t 63) (.c (.bool false)))
 (.rd (some 65) none (.mov (.t 64))
 (.rd (some 66) (some (65, true)) (.mov (.t 1))
 (.rd (some 67) (some (65, true)) (.bin .rem (.t 66) (.c (.int .i64 2)))
 (.rd (some 68) (some (65, true)) (.bin .eql (.t 67) (.c (.int .i64 0)))
 (.rd (some 69) none (.pick (.t 65) (.t 68) (.c (.bool false)))
 (.rd (some 4) none (.mov (.t 69))
 .done))))))))))))
def proofmarkref10_room_r15 : AT := (.rd (some 70) none (.mov (.t 1))
 (.rd (some 71) none (.bin .eql (.t 70) (.c (.int .i64 0)))
 (.rd (some 4) none (.mov (.t 71))
 .done)))
def proofmarkref10_room : AF := ⟨72, [.tmp 4],
  (.seq (.reg proofmarkref10_room_r0 [])
  (.seq (.seq (.reg proofmarkref10_room_r1 [])
  (.block 0 (.seq (.seq (.reg proofmarkref10_room_r2 [7])
  (.cond (.t 6)
  .skip
  (.reg proofmarkref10_room_r3 [8])))
  (.cond (.t 6)
  (.seq (.reg proofmarkref10_room_r4 [9, 10, 11, 12, 13, 14])
  .ret)
  (.seq (.reg proofmarkref10_room_r5 [16])
  (.cond (.t 15)
  (.seq (.reg proofmarkref10_room_r6 [17, 18, 19, 20, 21, 22])
  .ret)
  (.seq (.reg proofmarkref10_room_r7 [24])
  (.cond (.t 23)
  (.seq (.reg proofmarkref10_room_r8 [25, 26, 27, 28, 29, 30])
  .ret)
  (.seq (.reg proofmarkref10_room_r9 [32])
  (.cond (.t 31)
  (.seq (.reg proofmarkref10_room_r10 [33, 34, 35, 36, 37, 38, 39, 40, 41, 42, 43])
  .ret)
  (.seq (.reg proofmarkref10_room_r11 [45])
  (.cond (.t 44)
  (.seq (.reg proofmarkref10_room_r12 [46, 47, 48, 49, 50, 51, 52, 53, 54, 55, 56])
  .ret)
  (.seq (.reg proofmarkref10_room_r13 [58])
  (.cond (.t 57)
  (.seq (.reg proofmarkref10_room_r14 [59, 60, 61, 62, 63, 64, 65, 66, 67, 68, 69])
  .ret)
  .skip))))))))))))))
  (.seq (.reg proofmarkref10_room_r15 [70, 71])
  .ret)))⟩
abbrev n_proofmarkref10_room : Nat := 32
/- proofmark/rv.Text$1 -/
def rv_Text_S1_r0 : AT := (.rd (some 5) none (.mov (.t 0))
 .done)
def rv_Text_S1_r1 : AT := (.rd (some 6) none (.load false 1 (.t 2))
 (.rd (some 7) none (.mov (.t 1))
 (.rd (some 8) none (.conv .i64 (.t 7))
 (.cl true (some 9) none (.c (.fn (.func 34) [] [])) [(.t 8)]
 (.rd (some 10) none (.bin .add (.c (.str [120])) (.t 9))
 (.wr true (some 11) none (.bsl false false 9 1 [(.str [])] 1 [(0, 1, (.t 10))])
 (.wr false (some 12) none (.app 9 1 16 false (.t 6) (.t 11))
 (.wr false none none (.store 1 (.t 2) (.t 12))
 .done))))))))
def rv_Text_S1 : AF := ⟨13, [],
  (.seq (.reg rv_Text_S1_r0 [])
  (.cond (.t 5)
  (.reg rv_Text_S1_r1 [6, 7, 8, 9, 10, 11, 12])
  .skip))⟩
abbrev n_rv_Text_S1 : Nat := 33
/- strconv.Itoa -/
def strconv_Itoa_r0 : AT := (.rd (some 2) none (.mov (.c (.str [])))
 .done)
def strconv_Itoa_r1 : AT := (.rd (some 3) none (.mov (.t 0))
 (.cl false (some 4) none (.c (.fn (.func 49) [] [])) [(.t 3)]
 (.rd (some 2) none (.mov (.t 4))
 .done)))
def strconv_Itoa : AF := ⟨5, [.tmp 2],
  (.seq (.reg strconv_Itoa_r0 [])
  (.seq (.reg strconv_Itoa_r1 [3, 4])
  .ret))⟩
abbrev n_strconv_Itoa : Nat := 34
/- strconv.FormatInt -/
def strconv_FormatInt_r0 : AT := (.rd (some 4) none (.mov (.c (.str [])))
 .done)
def strconv_FormatInt_r1 : AT := (.rd (some 5) none (.mov (.t 0))
 (.rd (some 6) none (.mov (.t 1))
 (.cl false (some 7) none (.c (.fn (.func 50) [] [])) [(.t 5), (.t 6)]
 (.rd (some 4) none (.mov (.t 7))
 .done))))
def strconv_FormatInt : AF := ⟨8, [.tmp 4],
  (.seq (.reg strconv_FormatInt_r0 [])
  (.seq (.reg strconv_FormatInt_r1 [5, 6, 7])
  .ret))⟩
abbrev n_strconv_FormatInt : Nat := 35
/- strings.TrimSuffix -/
def strings_TrimSuffix_r0 : AT := (.rd (some 4) none (.mov (.c (.str [])))
 .done)
def strings_TrimSuffix_r1 : AT := (.rd (some 5) none (.mov (.t 0))
 (.rd (some 6) none (.mov (.t 1))
 (.cl false (some 7) none (.c (.fn (.func 51) [] [])) [(.t 5), (.t 6)]
 (.rd (some 4) none (.mov (.t 7))
 .done))))
def strings_TrimSuffix : AF := ⟨8, [.tmp 4],
  (.seq (.reg strings_TrimSuffix_r0 [])
  (.seq (.reg strings_TrimSuffix_r1 [5, 6, 7])
  .ret))⟩
abbrev n_strings_TrimSuffix : Nat := 36
/- strings.Join -/
def strings_Join_r0 : AT := (.rd (some 4) none (.mov (.c (.str [])))
 .done)
def strings_Join_r1 : AT := (.rd (some 11) none (.mov (.t 0))
 (.rd (some 12) none (.len 0 (.t 11))
 .done))
def strings_Join_r2 : AT := (.rd (some 14) none (.bin .eql (.t 12) (.c (.int .i64 0)))
 (.rd (some 13) none (.mov (.t 14))
 .done))
def strings_Join_r3 : AT := (.rd (some 4) none (.mov (.c (.str [])))
 .done)
def strings_Join_r4 : AT := (.rd (some 16) none (.bin .eql (.t 12) (.c (.int .i64 1)))
 (.rd (some 15) none (.mov (.t 16))
 .done))
def strings_Join_r5 : AT := (.rd (some 17) none (.mov (.t 0))
 (.rd (some 18) none (.iaddr none 1 (.t 17) (.c (.int .i64 0)))
 (.rd (some 19) none (.load false 1 (.t 18))
 (.rd (some 4) none (.mov (.t 19))
 .done))))
def strings_Join_r6 : AT := (.rd (some 5) none (.mov (.c (.int .i64 0)))
 .done)
def strings_Join_r7 : AT := (.rd (some 20) none (.mov (.t 1))
 (.rd (some 21) none (.len 1 (.t 20))
 (.rd (some 22) none (.bin .gtr (.t 21) (.c (.int .i64 0)))
 .done)))
def strings_Join_r8 : AT := (.rd (some 23) none (.mov (.t 1))
 (.rd (some 24) none (.len 1 (.t 23))
 (.rd (some 25) none (.mov (.t 0))
 (.rd (some 26) none (.len 0 (.t 25))
 (.rd (some 27) none (.bin .sub (.t 26) (.c (.int .i64 1)))
 (.rd (some 28) none (.bin .quo (.c (.int .i64 9223372036854775807)) (.t 27))
 (.rd (some 29) none (.bin .geq (.t 24) (.t 28))
 .done)))))))
def strings_Join_r9 : AT := (.bad false (some 30) none
 (.bad false none none
 .done))
def strings_Join_r10 : AT := (.rd (some 31) none (.mov (.t 5))
 (.rd (some 32) none (.mov (.t 1))
 (.rd (some 33) none (.len 1 (.t 32))
 (.rd (some 34) none (.mov (.t 0))
 (.rd (some 35) none (.len 0 (.t 34))
 (.rd (some 36) none (.bin .sub (.t 35) (.c (.int .i64 1)))
 (.rd (some 37) none (.bin .mul (.t 33) (.t 36))
 (.rd (some 38) none (.bin .add (.t 31) (.t 37))
 (.rd (some 5) none (.mov (.t 38))
 .done)))))))))
def strings_Join_r11 : AT := (.rd (some 39) none (.mov (.t 0))
 (.rd (some 40) none (.len 0 (.t 39))
 (.rd (some 41) none (.mov (.c (.int .i64 0)))
 .done)))
def strings_Join_r12 : AT := (.rd (some 42) none (.bin .lss (.t 41) (.t 40))
 .done)
def strings_Join_r13 : AT := (.rd (some 43) none (.iaddr none 1 (.t 39) (.t 41))
 (.rd (some 44) none (.load false 1 (.t 43))
 (.rd (some 7) none (.mov (.t 44))
 .done)))
def strings_Join_r14 : AT := (.rd (some 45) none (.mov (.t 7))
 (.rd (some 46) none (.len 1 (.t 45))
 (.rd (some 47) none (.mov (.t 5))
 (.rd (some 48) none (.bin .sub (.c (.int .i64 9223372036854775807)) (.t 47))
 (.rd (some 49) none (.bin .gtr (.t 46) (.t 48))
 .done)))))
def strings_Join_r15 : AT := (.bad false (some 50) none
 (.bad false none none
 .done))
def strings_Join_r16 : AT := (.rd (some 51) none (.mov (.t 5))
 (.rd (some 52) none (.mov (.t 7))
 (.rd (some 53) none (.len 1 (.t 52))
 (.rd (some 54) none (.bin .add (.t 51) (.t 53))
 (.rd (some 5) none (.mov (.t 54))
 .done)))))
def strings_Join_r17 : AT := (.rd (some 55) none (.bin .add (.t 41) (.c (.int .i64 1)))
 (.rd (some 41) none (.mov (.t 55))
 .done))
def strings_Join_r18 : AT := (.wr false (some 8) none (.new 100 [(.val (.pointer none)), (.lst 0 [] true)])
 .done)
def strings_Join_r19 : AT := (.rd (some 56) none (.mov (.t 5))
 (.cl false (some 57) none (.c (.fn (.func 52) [] [])) [(.t 8), (.t 56)]
 .done))
def strings_Join_r20 : AT := (.rd (some 58) none (.mov (.t 0))
 (.rd (some 59) none (.iaddr none 1 (.t 58) (.c (.int .i64 0)))
 (.rd (some 60) none (.load false 1 (.t 59))
 (.cl false (some 61) none (.c (.fn (.func 53) [] [])) [(.t 8), (.t 60)]
 .done))))
def strings_Join_r21 : AT := (.rd (some 62) none (.mov (.t 0))
 (.rd (some 63) none (.slc 1 (.t 62) (some (.c (.int .i64 1))) none none)
 (.rd (some 64) none (.len 0 (.t 63))
 (.rd (some 65) none (.mov (.c (.int .i64 0)))
 .done))))
def strings_Join_r22 : AT := (.rd (some 66) none (.bin .lss (.t 65) (.t 64))
 .done)
def strings_Join_r23 : AT := (.rd (some 67) none (.iaddr none 1 (.t 63) (.t 65))
 (.rd (some 68) none (.load false 1 (.t 67))
 (.rd (some 10) none (.mov (.t 68))
 .done)))
def strings_Join_r24 : AT := (.rd (some 69) none (.mov (.t 1))
 (.cl false (some 70) none (.c (.fn (.func 53) [] [])) [(.t 8), (.t 69)]
 .done))
def strings_Join_r25 : AT := (.rd (some 71) none (.mov (.t 10))
 (.cl false (some 72) none (.c (.fn (.func 53) [] [])) [(.t 8), (.t 71)]
 .done))
def strings_Join_r26 : AT := (.rd (some 73) none (.bin .add (.t 65) (.c (.int .i64 1)))
 (.rd (some 65) none (.mov (.t 73))
 .done))
def strings_Join_r27 : AT := (.cl false (some 74) none (.c (.fn (.func 54) [] [])) [(.t 8)]
 (.rd (some 4) none (.mov (.t 74))
 .done))
def strings_Join : AF := ⟨75, [.tmp 4],
  (.seq (.reg strings_Join_r0 [])
  (.seq (.seq (.reg strings_Join_r1 [11])
  (.block 0 (.seq (.reg strings_Join_r2 [14])
  (.cond (.t 13)
  (.seq (.reg strings_Join_r3 [])
  .ret)
  (.seq (.reg strings_Join_r4 [16])
  (.cond (.t 15)
  (.seq (.reg strings_Join_r5 [17, 18, 19])
  .ret)
  .skip))))))
  (.seq (.reg strings_Join_r6 [])
  (.seq (.seq (.reg strings_Join_r7 [20, 21])
  (.cond (.t 22)
  (.seq (.seq (.reg strings_Join_r8 [23, 24, 25, 26, 27, 28])
  (.cond (.t 29)
  (.reg strings_Join_r9 [30])
  .skip))
  (.reg strings_Join_r10 [31, 32, 33, 34, 35, 36, 37, 38]))
  .skip))
  (.seq (.seq (.reg strings_Join_r11 [])
  (.block 1 (.loop (.seq (.reg strings_Join_r12 [])
  (.seq (.cond (.t 42)
  .skip
  (.exit 1))
  (.seq (.block 2 (.seq (.reg strings_Join_r13 [43, 44])
  (.seq (.seq (.reg strings_Join_r14 [45, 46, 47, 48])
  (.cond (.t 49)
  (.reg strings_Join_r15 [50])
  .skip))
  (.reg strings_Join_r16 [51, 52, 53, 54]))))
  (.reg strings_Join_r17 [55])))))))
  (.seq (.reg strings_Join_r18 [])
  (.seq (.reg strings_Join_r19 [56, 57])
  (.seq (.reg strings_Join_r20 [58, 59, 60, 61])
  (.seq (.seq (.reg strings_Join_r21 [62])
  (.block 3 (.loop (.seq (.reg strings_Join_r22 [])
  (.seq (.cond (.t 66)
  .skip
  (.exit 3))
  (.seq (.block 4 (.seq (.reg strings_Join_r23 [67, 68])
  (.seq (.reg strings_Join_r24 [69, 70])
  (.reg strings_Join_r25 [71, 72]))))
  (.reg strings_Join_r26 [73])))))))
  (.seq (.reg strings_Join_r27 [74])
  .ret))))))))))⟩
abbrev n_strings_Join : Nat := 37
abbrev n_rv_Writes : Nat := 38
abbrev n_proofmarkref10_Writes : Nat := 39
abbrev n_rv_Reads : Nat := 40
abbrev n_proofmarklaw10_same : Nat := 41
abbrev n_proofmarkref10_Reads : Nat := 42
abbrev n_proofmarkref10_Name : Nat := 43
abbrev n_proofmarkref10_Text : Nat := 44
/- proofmark/rv.tells -/
def rv_tells_r0 : AT := (.wr false (some 5) none (.box 46 (.t 0))
 (.wr false (some 10) none (.new 48 [(.bool false), (.bool false), (.bool false), (.lst 0 [] true), (.int .i64 0), (.bool false), (.int .u32 0), (.str []), (.int .u32 0)])
 .done))
def rv_tells_r1 : AT := (.rd (some 11) none (.load true 7 (.t 5))
 (.rd (some 12) none (.mov (.t 1))
 (.rd (some 13) none (.mov (.t 2))
 (.rd (some 14) none (.mov (.t 3))
 (.rd (some 15) none (.faddr 0 (.g 3))
 (.rd (some 16) none (.load false 1 (.t 15))
 (.rd (some 17) none (.bin .shl (.t 14) (.t 16))
 (.rd (some 18) none (.mov (.t 4))
 (.rd (some 19) none (.faddr 0 (.g 4))
 (.rd (some 20) none (.load false 1 (.t 19))
 (.rd (some 21) none (.bin .shl (.t 18) (.t 20))
 (.wr true (some 22) none (.bsl false false 22 1 [(.int .u32 0)] 3 [(0, 1, (.t 13)), (1, 1, (.t 17)), (2, 1, (.t 21))])
 (.cl true (some 23) none (.c (.fn (.func 29) [] [])) [(.t 22)]
 (.rd (some 24) none (.build [(.bool false), (.bool false), (.bool false), (.lst 0 [] true), (.int .i64 0), (.bool false), (.int .u32 0), (.str []), (.int .u32 0)] [(0, 7, (.t 11)), (7, 1, (.t 12)), (8, 1, (.t 23))])
 (.wr false none none (.store 9 (.t 10) (.t 24))
 .done)))))))))))))))
def rv_tells : AF := ⟨25, [.cell 10 true 9],
  (.seq (.reg rv_tells_r0 [])
  (.seq (.reg rv_tells_r1 [11, 12, 13, 14, 15, 16, 17, 18, 19, 20, 21, 22, 23, 24])
  .ret))⟩
abbrev n_rv_tells : Nat := 45
/- (proofmark/rv.form).width -/
def rv_form_width_r0 : AT := (.wr false (some 1) none (.box 46 (.t 0))
 (.rd (some 2) none (.mov (.c (.int .i64 0)))
 .done))
def rv_form_width_r1 : AT := (.rd (some 6) none (.faddr 4 (.t 1))
 (.rd (some 7) none (.load false 1 (.t 6))
 (.rd (some 3) none (.mov (.t 7))
 .done)))
def rv_form_width_r2 : AT := (.rd (some 8) none (.faddr 3 (.t 1))
 (.rd (some 9) none (.load false 1 (.t 8))
 (.rd (some 10) none (.len 0 (.t 9))
 (.rd (some 11) none (.mov (.c (.int .i64 0)))
 .done))))
def rv_form_width_r3 : AT := (.rd (some 12) none (.bin .lss (.t 11) (.t 10))
 .done)
def rv_form_width_r4 : AT := (.rd (some 13) none (.iaddr none 2 (.t 9) (.t 11))
 (.rd (some 14) none (.load true 2 (.t 13))
 (.wr false (some 5) none (.new 57 [(.int .i64 0), (.int .i64 0)])
 (.wr false none none (.store 2 (.t 5) (.t 14))
 .done))))
def rv_form_width_r5 : AT := (.rd (some 15) none (.mov (.t 3))
 (.rd (some 16) none (.faddr 1 (.t 5))
 (.rd (some 17) none (.load false 1 (.t 16))
 (.rd (some 18) none (.bin .add (.t 15) (.t 17))
 (.rd (some 3) none (.mov (.t 18))
 .done)))))
def rv_form_width_r6 : AT := (.rd (some 19) none (.bin .add (.t 11) (.c (.int .i64 1)))
 (.rd (some 11) none (.mov (.t 19))
 .done))
def rv_form_width_r7 : AT := (.rd (some 20) none (.mov (.t 3))
 (.rd (some 2) none (.mov (.t 20))
 .done))
def rv_form_width : AF := ⟨21, [.tmp 2],
  (.seq (.reg rv_form_width_r0 [])
  (.seq (.reg rv_form_width_r1 [6, 7])
  (.seq (.seq (.reg rv_form_width_r2 [8])
  (.block 0 (.loop (.seq (.reg rv_form_width_r3 [])
  (.seq (.cond (.t 12)
  .skip
  (.exit 0))
  (.seq (.block 1 (.seq (.reg rv_form_width_r4 [13, 14])
  (.reg rv_form_width_r5 [15, 16, 17, 18])))
  (.reg rv_form_width_r6 [19])))))))
  (.seq (.reg rv_form_width_r7 [20])
  .ret))))⟩
abbrev n_rv_form_width : Nat := 46
/- proofmark/proofmarkref10.signed -/
def proofmarkref10_signed_r0 : AT := (.rd (some 4) none (.mov (.c (.int .i64 0)))
 .done)
def proofmarkref10_signed_r1 : AT := (.rd (some 5) none (.mov (.t 0))
 (.rd (some 6) none (.mov (.t 1))
 (.rd (some 7) none (.bin .sub (.t 6) (.c (.int .i64 1)))
 (.rd (some 8) none (.bin .shl (.c (.int .i64 1)) (.t 7))
 (.rd (some 9) none (.bin .geq (.t 5) (.t 8))
 .done)))))
def proofmarkref10_signed_r2 : AT := (.rd (some 10) none (.mov (.t 0))
 (.rd (some 11) none (.mov (.t 1))
 (.rd (some 12) none (.bin .shl (.c (.int .i64 1)) (.t 11))
 (.rd (some 13) none (.bin .sub (.t 10) (.t 12))
 (.rd (some 4) none (.mov (.t 13))
 .done)))))
def proofmarkref10_signed_r3 : AT := (.rd (some 14) none (.mov (.t 0))
 (.rd (some 4) none (.mov (.t 14))
 .done))
def proofmarkref10_signed : AF := ⟨15, [.tmp 4],
  (.seq (.reg proofmarkref10_signed_r0 [])
  (.seq (.seq (.reg proofmarkref10_signed_r1 [5, 6, 7, 8])
  (.cond (.t 9)
  (.seq (.reg proofmarkref10_signed_r2 [10, 11, 12, 13])
  .ret)
  .skip))
  (.seq (.reg proofmarkref10_signed_r3 [14])
  .ret)))⟩
abbrev n_proofmarkref10_signed : Nat := 47
abbrev n_slices_Backward_rv_bits_rv_bits : Nat := 48
abbrev n_internal_strconv_Itoa : Nat := 49
abbrev n_internal_strconv_FormatInt : Nat := 50
abbrev n_internal_stringslite_TrimSuffix : Nat := 51
abbrev n_strings_Builder_Grow : Nat := 52
abbrev n_strings_Builder_WriteString : Nat := 53
abbrev n_strings_Builder_String : Nat := 54
abbrev n_slices_Sort_uint8_uint8 : Nat := 55
abbrev n_slices_Compact_uint8_uint8 : Nat := 56
abbrev n_slices_DeleteFunc_uint8_uint8 : Nat := 57
abbrev n_rv_Reads_S1 : Nat := 58
abbrev n_proofmarkref10_digits : Nat := 59
abbrev n_slices_Backward_rv_bits_rv_bits__S1 : Nat := 60
abbrev n_internal_strconv_small : Nat := 61
abbrev n_internal_strconv_numDigits : Nat := 62
abbrev n_internal_strconv_formatBase10 : Nat := 63
abbrev n_internal_strconv_formatBits : Nat := 64
abbrev n_internal_stringslite_HasSuffix : Nat := 65
abbrev n_strings_Builder_copyCheck : Nat := 66
abbrev n_strings_Builder_grow : Nat := 67
abbrev n_slices_pdqsortOrdered_uint8 : Nat := 68
abbrev n_math_bits_Len : Nat := 69
abbrev n_slices_IndexFunc_uint8_uint8 : Nat := 70
abbrev n_internal_strconv_log10Pow2 : Nat := 71
abbrev n_math_bits_Len64 : Nat := 72
abbrev n_internal_strconv_bool2_int : Nat := 73
abbrev n_internal_strconv_isPowerOfTwo : Nat := 74
abbrev n_math_bits_TrailingZeros : Nat := 75
abbrev n_slices_insertionSortOrdered_uint8 : Nat := 78
abbrev n_slices_heapSortOrdered_uint8 : Nat := 79
abbrev n_slices_breakPatternsOrdered_uint8 : Nat := 80
abbrev n_slices_choosePivotOrdered_uint8 : Nat := 81
abbrev n_slices_reverseRangeOrdered_uint8 : Nat := 82
abbrev n_slices_partialInsertionSortOrdered_uint8 : Nat := 83
abbrev n_cmp_Less_uint8 : Nat := 84
abbrev n_slices_partitionEqualOrdered_uint8 : Nat := 85
abbrev n_slices_partitionOrdered_uint8 : Nat := 86
abbrev n_math_bits_Len32 : Nat := 87
abbrev n_math_bits_TrailingZeros32 : Nat := 88
abbrev n_math_bits_TrailingZeros64 : Nat := 89
abbrev n_slices_siftDownOrdered_uint8 : Nat := 90
abbrev n_slices_nextPowerOfTwo : Nat := 91
abbrev n_slices_xorshift_Next : Nat := 92
abbrev n_slices_medianAdjacentOrdered_uint8 : Nat := 93
abbrev n_slices_medianOrdered_uint8 : Nat := 94
abbrev n_cmp_isNaN_uint8 : Nat := 95
abbrev n_slices_order2Ordered_uint8 : Nat := 96
abbrev n_gosem_cut_vars : Nat := 125
def tab : Nat → Option AF
  | 3 => some proofmarklaw10_RvDecodes
  | 4 => some proofmarklaw10_RvEncodes
  | 5 => some proofmarklaw10_RvUnlike
  | 7 => some rv_Decode
  | 8 => some proofmarkref10_Decode
  | 9 => some proofmarklaw10_plain
  | 10 => some proofmarklaw10_works
  | 11 => some rv_Encode
  | 12 => some proofmarkref10_Encode
  | 13 => some rv_Text
  | 16 => some rv_table
  | 17 => some slices_IndexFunc_rv_row_rv_row
  | 18 => some rv_Decode_S1
  | 19 => some rv_form_number
  | 20 => some rv_bits_of
  | 21 => some proofmarkref10_rows
  | 22 => some proofmarkref10_is
  | 23 => some proofmarkref10_number
  | 24 => some proofmarkref10_has
  | 25 => some proofmarkref10_field
  | 26 => some rv_of
  | 27 => some rv_Encode_S1
  | 28 => some rv_form_fits
  | 29 => some rv_together
  | 30 => some rv_form_spread
  | 31 => some proofmarkref10_row
  | 32 => some proofmarkref10_room
  | 33 => some rv_Text_S1
  | 34 => some strconv_Itoa
  | 35 => some strconv_FormatInt
  | 36 => some strings_TrimSuffix
  | 37 => some strings_Join
  | 45 => some rv_tells
  | 46 => some rv_form_width
  | 47 => some proofmarkref10_signed
  | _ => none
theorem t_proofmarklaw10_RvDecodes : tab n_proofmarklaw10_RvDecodes = some proofmarklaw10_RvDecodes := rfl
theorem t_proofmarklaw10_RvEncodes : tab n_proofmarklaw10_RvEncodes = some proofmarklaw10_RvEncodes := rfl
theorem t_proofmarklaw10_RvUnlike : tab n_proofmarklaw10_RvUnlike = some proofmarklaw10_RvUnlike := rfl
theorem t_rv_Decode : tab n_rv_Decode = some rv_Decode := rfl
theorem t_proofmarkref10_Decode : tab n_proofmarkref10_Decode = some proofmarkref10_Decode := rfl
theorem t_proofmarklaw10_plain : tab n_proofmarklaw10_plain = some proofmarklaw10_plain := rfl
theorem t_proofmarklaw10_works : tab n_proofmarklaw10_works = some proofmarklaw10_works := rfl
theorem t_rv_Encode : tab n_rv_Encode = some rv_Encode := rfl
theorem t_proofmarkref10_Encode : tab n_proofmarkref10_Encode = some proofmarkref10_Encode := rfl
theorem t_rv_Text : tab n_rv_Text = some rv_Text := rfl
theorem t_rv_table : tab n_rv_table = some rv_table := rfl
theorem t_slices_IndexFunc_rv_row_rv_row : tab n_slices_IndexFunc_rv_row_rv_row = some slices_IndexFunc_rv_row_rv_row := rfl
theorem t_rv_Decode_S1 : tab n_rv_Decode_S1 = some rv_Decode_S1 := rfl
theorem t_rv_form_number : tab n_rv_form_number = some rv_form_number := rfl
theorem t_rv_bits_of : tab n_rv_bits_of = some rv_bits_of := rfl
theorem t_proofmarkref10_rows : tab n_proofmarkref10_rows = some proofmarkref10_rows := rfl
theorem t_proofmarkref10_is : tab n_proofmarkref10_is = some proofmarkref10_is := rfl
theorem t_proofmarkref10_number : tab n_proofmarkref10_number = some proofmarkref10_number := rfl
theorem t_proofmarkref10_has : tab n_proofmarkref10_has = some proofmarkref10_has := rfl
theorem t_proofmarkref10_field : tab n_proofmarkref10_field = some proofmarkref10_field := rfl
theorem t_rv_of : tab n_rv_of = some rv_of := rfl
theorem t_rv_Encode_S1 : tab n_rv_Encode_S1 = some rv_Encode_S1 := rfl
theorem t_rv_form_fits : tab n_rv_form_fits = some rv_form_fits := rfl
theorem t_rv_together : tab n_rv_together = some rv_together := rfl
theorem t_rv_form_spread : tab n_rv_form_spread = some rv_form_spread := rfl
theorem t_proofmarkref10_row : tab n_proofmarkref10_row = some proofmarkref10_row := rfl
theorem t_proofmarkref10_room : tab n_proofmarkref10_room = some proofmarkref10_room := rfl
theorem t_rv_Text_S1 : tab n_rv_Text_S1 = some rv_Text_S1 := rfl
theorem t_strconv_Itoa : tab n_strconv_Itoa = some strconv_Itoa := rfl
theorem t_strconv_FormatInt : tab n_strconv_FormatInt = some strconv_FormatInt := rfl
theorem t_strings_TrimSuffix : tab n_strings_TrimSuffix = some strings_TrimSuffix := rfl
theorem t_strings_Join : tab n_strings_Join = some strings_Join := rfl
theorem t_rv_tells : tab n_rv_tells = some rv_tells := rfl
theorem t_rv_form_width : tab n_rv_form_width = some rv_form_width := rfl
theorem t_proofmarkref10_signed : tab n_proofmarkref10_signed = some proofmarkref10_signed := rfl
end Go.Proofs.YtkhdfbokkneeaaaDoor
