/- Instructions: what the document says of words, in numbers. -/
import Derived.Test.YtkhdfbokkneeaaaDoorAmD
namespace Go.Rv
open Go Go.Am
set_option maxRecDepth 100000

/-- Bits of a word. -/
def fld (w : Int) (a m : Nat) : Int := w / 2 ^ a % 2 ^ m

/-- An instruction. -/
structure In where
  op : Int
  rd : Int
  rs1 : Int
  rs2 : Int
  imm : Int
  deriving DecidableEq

/-- The table's rows: form, name, opcode, f3, f7. -/
structure RR where
  form : Int
  name : List UInt8
  code : Int
  f3 : Int
  f7 : Int
  deriving DecidableEq

def is (w : Int) (r : RR) : Bool :=
  if r.form = 69 then decide (w = r.code ∧ r.name = [101, 99, 97, 108, 108] ∨ w = 1048691 ∧ r.name = [101, 98, 114, 101, 97, 107])
  else if r.form = 85 ∨ r.form = 74 then decide (fld w 0 7 = r.code)
  else if r.form = 72 then decide (fld w 0 7 = r.code ∧ fld w 12 3 = r.f3 ∧ fld w 26 6 = r.f7 / 2)
  else if r.form = 82 ∨ r.form = 87 then decide (fld w 0 7 = r.code ∧ fld w 12 3 = r.f3 ∧ fld w 25 7 = r.f7)
  else decide (fld w 0 7 = r.code ∧ fld w 12 3 = r.f3)

def hasRd (f : Int) : Bool := f = 82 ∨ f = 73 ∨ f = 72 ∨ f = 87 ∨ f = 85 ∨ f = 74
def hasR1 (f : Int) : Bool := f = 82 ∨ f = 73 ∨ f = 72 ∨ f = 87 ∨ f = 83 ∨ f = 66
def hasR2 (f : Int) : Bool := f = 82 ∨ f = 83 ∨ f = 66

def sgn (n : Int) (b : Nat) : Int := if n ≥ 2 ^ (b - 1) then n - 2 ^ b else n

def number (w f : Int) : Int :=
  if f = 73 then sgn (fld w 20 12) 12
  else if f = 72 then fld w 20 6
  else if f = 87 then fld w 20 5
  else if f = 83 then sgn (fld w 25 7 * 32 + fld w 7 5) 12
  else if f = 66 then sgn (fld w 31 1 * 4096 + fld w 7 1 * 2048 + fld w 25 6 * 32 + fld w 8 4 * 2) 13
  else if f = 85 then sgn (fld w 12 20 * 4096) 32
  else if f = 74 then sgn (fld w 31 1 * 1048576 + fld w 12 8 * 4096 + fld w 20 1 * 2048 + fld w 21 10 * 2) 21
  else 0

def room (f n : Int) : Bool :=
  if f = 73 ∨ f = 83 then decide (-2048 ≤ n ∧ n ≤ 2047)
  else if f = 72 then decide (0 ≤ n ∧ n ≤ 63)
  else if f = 87 then decide (0 ≤ n ∧ n ≤ 31)
  else if f = 66 then decide (-4096 ≤ n ∧ n ≤ 4094 ∧ n % 2 = 0)
  else if f = 85 then decide (-2147483648 ≤ n ∧ n < 2147483648 ∧ n % 4096 = 0)
  else if f = 74 then decide (-1048576 ≤ n ∧ n < 1048576 ∧ n % 2 = 0)
  else decide (n = 0)

/-- A number's bits in a word. -/
def spread (f n : Int) : Int :=
  if f = 73 ∨ f = 72 ∨ f = 87 then n % 4096 * 1048576
  else if f = 83 then n / 32 % 128 * 33554432 + n % 32 * 128
  else if f = 66 then n / 4096 % 2 * 2147483648 + n / 32 % 64 * 33554432 + n / 2 % 16 * 256 + n / 2048 % 2 * 128
  else if f = 85 then n / 4096 % 1048576 * 4096
  else if f = 74 then n / 1048576 % 2 * 2147483648 + n / 2 % 1024 * 2097152 + n / 2048 % 2 * 1048576 + n / 4096 % 256 * 4096
  else 0

def mk (i : Nat) (r : RR) (w : Int) : In :=
  ⟨i + 1, if hasRd r.form then fld w 7 5 else 0, if hasR1 r.form then fld w 15 5 else 0, if hasR2 r.form then fld w 20 5 else 0, number w r.form⟩

def first (w : Int) : Nat → List RR → Option In
  | _, [] => none
  | i, r :: l => if is w r then some (mk i r w) else first w (i + 1) l

def matchOf (r : RR) : Int := if r.name = [101, 98, 114, 101, 97, 107] then 1048691 else r.code + r.f3 * 4096 + r.f7 * 33554432

/-- What an instruction's word is: or the error. -/
def enc (T : List RR) (x : In) : Int × Int :=
  if 1 ≤ x.op ∧ x.op ≤ T.length then
    match T[(x.op - 1).toNat]? with
    | none => (0, 100)
    | some r =>
      if x.rd > 31 ∨ x.rs1 > 31 ∨ x.rs2 > 31 ∨ (hasRd r.form = false ∧ x.rd ≠ 0) ∨ (hasR1 r.form = false ∧ x.rs1 ≠ 0) ∨ (hasR2 r.form = false ∧ x.rs2 ≠ 0) ∨ ((r.form = 82 ∨ r.form = 69) ∧ x.imm ≠ 0) then (0, 100)
      else if room r.form x.imm = false then (0, 101)
      else (matchOf r + x.rd * 128 + x.rs1 * 32768 + x.rs2 * 1048576 + spread r.form x.imm, 0)
  else (0, 100)

/-- The table. -/
def T : List RR := [
  ⟨85, [108, 117, 105], 55, 0, 0⟩,
  ⟨85, [97, 117, 105, 112, 99], 23, 0, 0⟩,
  ⟨74, [106, 97, 108], 111, 0, 0⟩,
  ⟨73, [106, 97, 108, 114], 103, 0, 0⟩,
  ⟨66, [98, 101, 113], 99, 0, 0⟩,
  ⟨66, [98, 110, 101], 99, 1, 0⟩,
  ⟨66, [98, 108, 116], 99, 4, 0⟩,
  ⟨66, [98, 103, 101], 99, 5, 0⟩,
  ⟨66, [98, 108, 116, 117], 99, 6, 0⟩,
  ⟨66, [98, 103, 101, 117], 99, 7, 0⟩,
  ⟨73, [108, 98], 3, 0, 0⟩,
  ⟨73, [108, 104], 3, 1, 0⟩,
  ⟨73, [108, 119], 3, 2, 0⟩,
  ⟨73, [108, 100], 3, 3, 0⟩,
  ⟨73, [108, 98, 117], 3, 4, 0⟩,
  ⟨73, [108, 104, 117], 3, 5, 0⟩,
  ⟨73, [108, 119, 117], 3, 6, 0⟩,
  ⟨83, [115, 98], 35, 0, 0⟩,
  ⟨83, [115, 104], 35, 1, 0⟩,
  ⟨83, [115, 119], 35, 2, 0⟩,
  ⟨83, [115, 100], 35, 3, 0⟩,
  ⟨73, [97, 100, 100, 105], 19, 0, 0⟩,
  ⟨73, [115, 108, 116, 105], 19, 2, 0⟩,
  ⟨73, [115, 108, 116, 105, 117], 19, 3, 0⟩,
  ⟨73, [120, 111, 114, 105], 19, 4, 0⟩,
  ⟨73, [111, 114, 105], 19, 6, 0⟩,
  ⟨73, [97, 110, 100, 105], 19, 7, 0⟩,
  ⟨72, [115, 108, 108, 105], 19, 1, 0⟩,
  ⟨72, [115, 114, 108, 105], 19, 5, 0⟩,
  ⟨72, [115, 114, 97, 105], 19, 5, 32⟩,
  ⟨82, [97, 100, 100], 51, 0, 0⟩,
  ⟨82, [115, 117, 98], 51, 0, 32⟩,
  ⟨82, [115, 108, 108], 51, 1, 0⟩,
  ⟨82, [115, 108, 116], 51, 2, 0⟩,
  ⟨82, [115, 108, 116, 117], 51, 3, 0⟩,
  ⟨82, [120, 111, 114], 51, 4, 0⟩,
  ⟨82, [115, 114, 108], 51, 5, 0⟩,
  ⟨82, [115, 114, 97], 51, 5, 32⟩,
  ⟨82, [111, 114], 51, 6, 0⟩,
  ⟨82, [97, 110, 100], 51, 7, 0⟩,
  ⟨73, [97, 100, 100, 105, 119], 27, 0, 0⟩,
  ⟨87, [115, 108, 108, 105, 119], 27, 1, 0⟩,
  ⟨87, [115, 114, 108, 105, 119], 27, 5, 0⟩,
  ⟨87, [115, 114, 97, 105, 119], 27, 5, 32⟩,
  ⟨82, [97, 100, 100, 119], 59, 0, 0⟩,
  ⟨82, [115, 117, 98, 119], 59, 0, 32⟩,
  ⟨82, [115, 108, 108, 119], 59, 1, 0⟩,
  ⟨82, [115, 114, 108, 119], 59, 5, 0⟩,
  ⟨82, [115, 114, 97, 119], 59, 5, 32⟩,
  ⟨82, [109, 117, 108], 51, 0, 1⟩,
  ⟨82, [109, 117, 108, 104], 51, 1, 1⟩,
  ⟨82, [109, 117, 108, 104, 115, 117], 51, 2, 1⟩,
  ⟨82, [109, 117, 108, 104, 117], 51, 3, 1⟩,
  ⟨82, [100, 105, 118], 51, 4, 1⟩,
  ⟨82, [100, 105, 118, 117], 51, 5, 1⟩,
  ⟨82, [114, 101, 109], 51, 6, 1⟩,
  ⟨82, [114, 101, 109, 117], 51, 7, 1⟩,
  ⟨82, [109, 117, 108, 119], 59, 0, 1⟩,
  ⟨82, [100, 105, 118, 119], 59, 4, 1⟩,
  ⟨82, [100, 105, 118, 117, 119], 59, 5, 1⟩,
  ⟨82, [114, 101, 109, 119], 59, 6, 1⟩,
  ⟨82, [114, 101, 109, 117, 119], 59, 7, 1⟩,
  ⟨73, [102, 101, 110, 99, 101], 15, 0, 0⟩,
  ⟨69, [101, 99, 97, 108, 108], 115, 0, 0⟩,
  ⟨69, [101, 98, 114, 101, 97, 107], 115, 0, 0⟩]

end Go.Rv
