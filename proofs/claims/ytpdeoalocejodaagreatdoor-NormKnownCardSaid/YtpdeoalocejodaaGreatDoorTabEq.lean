/- The translations are so. -/
import Derived.Test.YtpdeoalocejodaaGreatDoorTabB
import Derived.Test.YtpdeoalocejodaaGreatDoorProg
namespace Go.Proofs.YtpdeoalocejodaaGreatDoor
open Go Go.Am
set_option maxRecDepth 100000
def Qcz : Nat → List Nat := fun i => [[], [], [28, 29], [], [31], [], [33, 34, 35, 36, 32, 37, 38, 39, 40, 41, 16], [], [42, 43, 44, 45, 46, 47], [], [49], [], [50, 51, 52, 53, 54, 55], [], [56, 57, 58, 59, 60, 61, 62, 63, 64, 65, 66, 67, 68, 69, 70, 71, 72, 73, 74, 75, 76, 77, 78, 79, 80, 81, 82, 83], [], [], [], [85, 86, 87, 88, 89, 90, 91, 92, 93, 94, 95, 96, 97, 98, 99, 100, 101, 102, 103, 104, 105, 106, 107], [], [], [], [110, 111, 109, 112, 113], [], [114, 115, 116, 117, 118, 119, 120, 121, 122, 123, 124], [], [], [], [127, 128, 126, 129, 130], [], [131, 132, 133, 134, 135, 136, 137, 138, 139, 140, 141, 142, 143, 144, 145, 146, 147, 148, 149, 150, 151, 152, 153, 154, 155, 156, 157, 158], [], [], [], [160], [], [], [], [165, 166], [], [168, 169, 170, 167, 171, 172], [], [173, 174, 175, 176, 177, 178, 179, 180, 181, 182, 183, 184, 185], [], [], [], [187], [], [188], []].getD i []
theorem Qcy : QH Tryz.prog (fun _ => false) Qcz 3 = some Xa := by kernel_rfl
theorem QcA : Qk Tryz.prog 3 = true := by kernel_rfl
def Qb6 : Nat → List Nat := fun i => [[], [], [20, 21], [], [23], [], [25, 26, 27, 28, 24, 29, 30, 31, 32, 33, 14], [], [34], [], [36], [], [37, 38], [], [39, 40], [], [41, 42, 43, 44, 45, 46, 47, 48, 49, 50, 51, 52, 53, 54, 55, 56, 57, 58, 59, 60, 61, 62, 63, 64, 65, 66, 67, 68, 69, 70, 71, 72, 73, 74, 75, 76, 77, 78, 79, 80, 81, 82, 83, 84, 85, 86, 87, 88, 89, 90, 91, 92, 93, 94, 95, 96, 97, 98, 99, 100, 101, 102, 103, 104, 105, 106, 107, 108, 109, 110, 111, 112, 113, 114, 115, 116, 117, 118, 119, 120, 121, 122, 123, 124, 125, 126, 127, 128, 129, 130, 131, 132, 133, 134, 135, 136, 137, 138, 139, 140, 141, 142, 143, 144, 145, 146, 147, 148, 149, 150, 151, 152, 153, 154, 155, 156, 157, 158, 159, 160, 161, 162, 163, 164, 165, 166, 167, 168, 169, 170, 171, 172, 173, 174, 175, 176, 177, 178, 179, 180, 181, 182, 183, 184, 185, 186, 187, 188, 189, 190, 191, 192, 193, 194, 195, 196, 197, 198, 199, 200, 201, 202], [], [], [], [203, 204, 205], [], [207, 208], [], [209, 210, 211, 212, 213, 214, 215, 216, 217, 218, 219, 220, 221, 222, 223, 224, 225, 226], [3, 3, 3, 3, 0, 3, 3, 3, 3, 0, 3, 3, 3, 3, 3, 3, 0, 3, 3], [], [], [228], []].getD i []
theorem Qb2 : QH Tryz.prog (fun _ => false) Qb6 4 = some Q5 := by kernel_rfl
theorem Qcb : Qk Tryz.prog 4 = true := by kernel_rfl
def Qc8 : Nat → List Nat := fun i => [[], [], [29, 30, 31, 32, 33, 34, 35], [], [37], [], [39, 40, 38, 41, 42, 12], [], [43, 44], [], [46, 47, 48, 49, 50, 51, 52, 53, 54, 55, 56, 57], [], [58, 59, 60, 61, 62, 63], [], [65, 66, 67, 68, 64, 69, 70, 16], [], [72, 73, 74, 75, 71, 76, 77, 18], [], [79, 80, 81, 78, 82, 83], [], [85, 86, 87, 84, 88, 89], [], [90, 91, 92, 93, 94, 95, 96, 97, 98, 99, 100, 101, 102, 103, 104, 105, 106, 107, 108, 109, 110, 111, 112, 113, 114, 115], [3, 3, 3, 3, 3, 0, 3, 3, 3, 3, 3, 3, 3, 3, 0, 3, 3, 3, 3, 3, 3, 1, 0, 2, 2, 3, 3], [], [], [117, 118, 119, 120, 121, 122, 123, 124], [], [126, 127, 128, 129, 125, 130, 131], [], [133, 134, 135, 136, 132, 137, 138], [], [139, 140, 141, 142, 143, 144, 145, 146, 147, 148, 149, 150, 151, 152, 153, 154, 155, 156, 157, 158, 159, 160, 161], [], [], [], [163, 164], [], [166, 167, 168, 169, 170], [], [171, 172, 173, 174, 175, 176, 177, 178, 179, 180, 181, 182], []].getD i []
theorem Qc6 : QH Tryz.prog (fun d => List.contains [121] d) Qc8 6 = some Xg := by kernel_rfl
theorem Qde : Qk Tryz.prog 6 = true := by kernel_rfl
def QdM : Nat → List Nat := fun i => [[], [], [14, 15, 16, 17, 18, 19, 20], [], [22], [], [24, 25, 23, 26, 27, 6], [], [28, 29], [], [], [], [30, 31], [], [33, 34], [], [35, 36, 37], [], [39, 40, 41, 42, 38, 43, 44], [], [46, 47, 48, 49, 45, 50, 51], [], [52, 53, 54, 55, 56, 57, 58, 59, 60, 61, 62, 63, 64, 65, 66, 67, 68], [], [], [], [70, 71, 72, 73, 74, 75, 76, 77, 78, 79, 80, 81, 82], []].getD i []
theorem QdE : QH Tryz.prog (fun _ => false) QdM 7 = some Xp := by kernel_rfl
theorem QdT : Qk Tryz.prog 7 = true := by kernel_rfl
def Qb7 : Nat → List Nat := fun i => [[], [], [10, 11, 12, 13, 14, 15, 16, 17, 18, 19, 20, 21, 22, 23, 24], [], [25, 26, 27, 28], [], [29], [], [], [], [30], [], [32, 33], [], [], [], [34, 35, 36], [], [38, 39], [], [], [], [40, 41, 42], [], [44, 45], [], [46, 47, 48, 49, 50, 51, 52, 53, 54, 55, 56, 57, 58, 59, 60], [3, 3, 3, 3, 3, 3, 0, 3, 3, 3, 3, 3, 3, 3, 0, 3, 3], [61, 62, 63, 64, 65, 66, 67, 68, 69, 70, 71, 72, 73, 74, 75, 76, 77, 78, 79, 80, 81, 82, 83, 84, 85, 86, 87, 88, 89, 90, 91, 92, 93, 94, 95, 96, 97, 98], [], [], [], [], [], [100, 101, 102, 103, 104, 105, 106, 107, 108, 109, 110, 111, 112, 113, 114, 115, 116, 117, 118, 119, 120, 121, 122, 123, 124, 125, 126, 127, 128, 129, 130], []].getD i []
theorem Qb3 : QH Tryz.prog (fun _ => false) Qb7 8 = some Xq := by kernel_rfl
theorem Qcc : Qk Tryz.prog 8 = true := by kernel_rfl
def Qes : Nat → List Nat := fun i => [[], [], [9], [], [10, 11, 12, 13], [], [14, 15, 16, 17, 18, 19, 20, 21, 22], [], [23, 24, 25, 26, 27, 28, 29, 30, 31, 32], [], [33, 34, 35, 36], [], [37, 38, 39, 40, 41, 42, 43, 44], [], [45, 46, 47, 48, 49, 50, 51, 52, 53, 54, 55, 56, 57, 58, 59, 60, 61, 62, 63, 64, 65, 66, 67, 68, 69, 70, 71, 72, 73, 74, 75, 76, 77, 78, 79, 80, 81, 82, 83], []].getD i []
theorem Qel : QH Tryz.prog (fun _ => false) Qes 9 = some XZ := by kernel_rfl
theorem Qez : Qk Tryz.prog 9 = true := by kernel_rfl
def QdL : Nat → List Nat := fun i => [[], [], [19, 20, 18, 21, 22, 14], [], [23, 24], [], [26], [], [27, 28, 29, 30, 31, 32, 33, 34, 35], [], [36, 37, 38, 39, 40, 41, 42, 43, 44, 45], []].getD i []
theorem QdD : QH Tryz.prog (fun _ => false) QdL 10 = some XQ := by kernel_rfl
theorem QdS : Qk Tryz.prog 10 = true := by kernel_rfl
def Qer : Nat → List Nat := fun i => [[], [], [3, 4, 5, 6, 7, 8], []].getD i []
theorem Qek : QH Tryz.prog (fun _ => false) Qer 11 = some Xd := by kernel_rfl
theorem Qey : Qk Tryz.prog 11 = true := by kernel_rfl
def Qpc : Nat → List Nat := fun i => [[], [], [5, 6, 7, 8], []].getD i []
theorem QoS : QH Tryz.prog (fun _ => false) Qpc 12 = some QaW := by kernel_rfl
theorem QpI : Qk Tryz.prog 12 = true := by kernel_rfl
def Qty : Nat → List Nat := fun i => [[], [], [14, 15, 16, 13, 17, 18, 9], [], [20, 21, 22, 19, 23, 24, 11], [], [25, 26, 27, 28, 29, 30, 31, 32, 33, 34], [], [], [], [36, 37, 38, 39, 40, 41], []].getD i []
theorem Qtp : QH Tryz.prog (fun _ => false) Qty 13 = some Qdq := by kernel_rfl
theorem QtS : Qk Tryz.prog 13 = true := by kernel_rfl
def Qw6 : Nat → List Nat := fun i => [[], [], [8, 9], [], [10, 11], [], [], [], [13, 14, 15, 16, 17], []].getD i []
theorem QwU : QH Tryz.prog (fun _ => false) Qw6 14 = some Qgj := by kernel_rfl
theorem Qxw : Qk Tryz.prog 14 = true := by kernel_rfl
def Qo6 : Nat → List Nat := fun i => [[], [], [3, 4, 5], []].getD i []
theorem QoM : QH Tryz.prog (fun _ => false) Qo6 15 = some QcN := by kernel_rfl
theorem QpC : Qk Tryz.prog 15 = true := by kernel_rfl
def QmK : Nat → List Nat := fun i => [[], [], [3, 4, 5], []].getD i []
theorem QmC : QH Tryz.prog (fun _ => false) QmK 16 = some Qbz := by kernel_rfl
theorem QmW : Qk Tryz.prog 16 = true := by kernel_rfl
def Qo9 : Nat → List Nat := fun i => [[], [], [4, 5, 6, 7, 8, 9], []].getD i []
theorem QoP : QH Tryz.prog (fun _ => false) Qo9 17 = some QcP := by kernel_rfl
theorem QpF : Qk Tryz.prog 17 = true := by kernel_rfl
def Qff : Nat → List Nat := fun i => [[], [], [], [], [6], [], [7], [], [8], [], [9], [], [], [], [11], [], [], [], [], []].getD i []
theorem Qfd : QH Tryz.prog (fun _ => false) Qff 18 = some QP := by kernel_rfl
theorem Qfi : Qk Tryz.prog 18 = true := by kernel_rfl
def Qeo : Nat → List Nat := fun i => [[], [], [7, 8, 9, 10, 11, 12, 13, 14, 15, 16, 17, 18, 19, 20], [], [], [], [22, 23, 24, 25, 26, 27], [], [], [], [29, 30, 31, 32, 33, 34, 35, 36, 37, 38], [], [], [], [], []].getD i []
theorem Qeh : QH Tryz.prog (fun _ => false) Qeo 19 = some QJ := by kernel_rfl
theorem Qev : Qk Tryz.prog 19 = true := by kernel_rfl
def QfZ : Nat → List Nat := fun i => [[], [], [5, 6, 7], []].getD i []
theorem QfP : QH Tryz.prog (fun _ => false) QfZ 20 = some Ys := by kernel_rfl
theorem Qf7 : Qk Tryz.prog 20 = true := by kernel_rfl
def Qtx : Nat → List Nat := fun i => [[], [], [8, 9, 10, 7, 11, 12, 5], [], [13], [], [], [], [15, 16, 17, 18, 19], []].getD i []
theorem Qto : QH Tryz.prog (fun d => List.contains [18] d) Qtx 21 = some Qhr := by kernel_rfl
theorem QtR : Qk Tryz.prog 21 = true := by kernel_rfl
def QgL : Nat → List Nat := fun i => [[], [], [5], [], [], [], [7, 8, 9, 10, 11, 12, 13], []].getD i []
theorem QgE : QH Tryz.prog (fun _ => false) QgL 22 = some X9 := by kernel_rfl
theorem QgT : Qk Tryz.prog 22 = true := by kernel_rfl
def Qf0 : Nat → List Nat := fun i => [[], [], [3, 4, 5, 6, 7, 8, 9, 10, 11, 12], []].getD i []
theorem QfQ : QH Tryz.prog (fun _ => false) Qf0 24 = some Xx := by kernel_rfl
theorem Qf8 : Qk Tryz.prog 24 = true := by kernel_rfl
def QgM : Nat → List Nat := fun i => [[], [], [7], [], [], [], [], [], [8, 9, 10], [], [12, 13], [], [14, 15, 16, 17, 18, 19, 20, 21, 22], [], [23, 24], []].getD i []
theorem QgF : QH Tryz.prog (fun _ => false) QgM 25 = some YE := by kernel_rfl
theorem QgU : Qk Tryz.prog 25 = true := by kernel_rfl
def Qiw : Nat → List Nat := fun i => [[], [], [3], [], [], [], [5, 6, 7, 8, 9], []].getD i []
theorem Qip : QH Tryz.prog (fun _ => false) Qiw 26 = some Y7 := by kernel_rfl
theorem QiF : Qk Tryz.prog 26 = true := by kernel_rfl
def QgK : Nat → List Nat := fun i => [[], [], [5, 6, 7, 8], []].getD i []
theorem QgD : QH Tryz.prog (fun _ => false) QgK 27 = some YD := by kernel_rfl
theorem QgS : Qk Tryz.prog 27 = true := by kernel_rfl
def Qtu : Nat → List Nat := fun i => [[], [], [11, 12, 13, 14, 15, 10, 16, 17], [], [18], [], [], [], [20, 21, 22], []].getD i []
theorem Qtl : QH Tryz.prog (fun _ => false) Qtu 28 = some Qg8 := by kernel_rfl
theorem QtO : Qk Tryz.prog 28 = true := by kernel_rfl
def Qix : Nat → List Nat := fun i => [[], [], [6, 7, 8], [], [10], [], [11, 12, 13, 14, 15, 16, 17], []].getD i []
theorem Qiq : QH Tryz.prog (fun _ => false) Qix 29 = some Yd := by kernel_rfl
theorem QiG : Qk Tryz.prog 29 = true := by kernel_rfl
def QmL : Nat → List Nat := fun i => [[], [], [9, 10, 11, 8, 12, 13], [], [14, 15, 16, 17, 18, 19], [], [], [], [21, 22], []].getD i []
theorem QmD : QH Tryz.prog (fun _ => false) QmL 30 = some QbH := by kernel_rfl
theorem QmX : Qk Tryz.prog 30 = true := by kernel_rfl
def Qq1 : Nat → List Nat := fun i => [[], [], [8, 9, 10, 7, 11, 12], [], [13], [], [], [], [15, 16, 17, 18, 19, 20, 21, 22, 23, 24, 25, 26, 27, 28, 29, 30, 31, 32, 33, 34, 35, 36, 37, 38, 39, 40, 41, 42, 43], []].getD i []
theorem QqS : QH Tryz.prog (fun _ => false) Qq1 31 = some QbI := by kernel_rfl
theorem Qrh : Qk Tryz.prog 31 = true := by kernel_rfl
def Qfg : Nat → List Nat := fun i => [[], [], [3, 4, 5, 6, 7, 8, 9, 10, 11, 12, 13, 14, 15, 16, 17, 18, 19, 20, 21, 22, 23, 24, 25, 26, 27, 28, 29, 30, 31, 32, 33, 34, 35], []].getD i []
theorem Qfe : QH Tryz.prog (fun _ => false) Qfg 32 = some QG := by kernel_rfl
theorem Qfj : Qk Tryz.prog 32 = true := by kernel_rfl
def Qc9 : Nat → List Nat := fun i => [[], [], [3, 4, 5, 6, 7, 8, 9, 10, 11, 12, 13, 14, 15], []].getD i []
theorem Qc7 : QH Tryz.prog (fun _ => false) Qc9 33 = some XE := by kernel_rfl
theorem Qdf : Qk Tryz.prog 33 = true := by kernel_rfl
def QgJ : Nat → List Nat := fun i => [[], [], [8, 9, 10, 11], [], [], [], [14], [], [15, 16, 17], [], [19], [], [20, 21, 22, 23], [], [25], [], [26, 27, 28], [], [30], [], [31], [], [32], [], [33], [], [34, 35, 36, 37], [], [39], [], [40, 41, 42], [], [44], [], [45, 46, 47], [], [49], [], [50, 51, 52], [], [54], [], [55, 56, 57], [], [59], [], [60, 61, 62], [], [64], [], [65, 66, 67, 68, 69], [], [71], [], [72, 73, 74, 75, 76, 77], [], [79], [], [80, 81, 82, 83], [], [85], [], [86, 87, 88, 89], [], [], []].getD i []
theorem QgC : QH Tryz.prog (fun _ => false) QgJ 34 = some Qm := by kernel_rfl
theorem QgR : Qk Tryz.prog 34 = true := by kernel_rfl
def Qw8 : Nat → List Nat := fun i => [[], [], [13, 14, 15, 12, 16, 17, 5], [], [18], [], [], [], [20], [], [21, 22, 23], [], [], [], [28, 29], [], [31, 32, 33, 30, 34, 35, 11], [], [36], [], [38, 39, 40], [], [42], [], [43, 44, 45, 46, 47, 48, 49, 50, 51, 52, 53, 54], [], [56], [], [57, 58, 59, 60, 61, 62, 63, 64, 65, 66, 67, 68, 69, 70], [], [71], [], [72, 73, 74], []].getD i []
theorem QwW : QH Tryz.prog (fun _ => false) Qw8 35 = some Qgs := by kernel_rfl
theorem Qxy : Qk Tryz.prog 35 = true := by kernel_rfl
def Qb5 : Nat → List Nat := fun i => [[], [], [21, 22], [], [24], [], [26, 27, 28, 29, 25, 30, 31, 32, 33, 34, 14], [], [35], [], [37], [], [38, 39, 40, 41, 42, 43, 44, 45, 46], [], [47, 48, 49, 50, 51, 52, 53], [], [54, 55, 56], [], [57, 58, 59, 60, 61, 62, 63, 64, 65, 66, 67, 68, 69, 70, 71, 72, 73, 74, 75, 76, 77, 78, 79, 80, 81, 82, 83, 84, 85, 86, 87, 88, 89, 90, 91, 92, 93, 94, 95, 96, 97, 98, 99, 100, 101, 102, 103, 104], [], [], [], [106, 107, 108, 109, 110, 111, 112, 113, 114, 115, 116, 117, 118, 119, 120, 121, 122], []].getD i []
theorem Qb1 : QH Tryz.prog (fun _ => false) Qb5 36 = some Q4 := by kernel_rfl
theorem Qca : Qk Tryz.prog 36 = true := by kernel_rfl
def Qtv : Nat → List Nat := fun i => [[], [], [1, 2, 3], []].getD i []
theorem Qtm : QH Tryz.prog (fun _ => false) Qtv 37 = some Qhc := by kernel_rfl
theorem QtP : Qk Tryz.prog 37 = true := by kernel_rfl
def Qtw : Nat → List Nat := fun i => [[], [], [5, 6, 7, 8], []].getD i []
theorem Qtn : QH Tryz.prog (fun _ => false) Qtw 38 = some Qhq := by kernel_rfl
theorem QtQ : Qk Tryz.prog 38 = true := by kernel_rfl
def Qiv : Nat → List Nat := fun i => [[], [], [9, 10, 11, 12, 13, 14, 15, 16, 17, 18, 19, 20, 21], [], [], [], [23], [], [24, 25, 26], [], [], [], [31, 32], [], [33, 34, 35, 36, 37, 38, 39], [], [40, 41, 42, 43, 44, 45, 46, 47, 48, 49, 50, 51, 52, 53, 54], [], [55], [], [56, 57, 58, 59], []].getD i []
theorem Qio : QH Tryz.prog (fun _ => false) Qiv 39 = some Y6 := by kernel_rfl
theorem QiE : Qk Tryz.prog 39 = true := by kernel_rfl
def Qq0 : Nat → List Nat := fun i => [[], [], [9, 10, 11, 12, 13, 14], []].getD i []
theorem QqR : QH Tryz.prog (fun _ => false) Qq0 40 = some QeT := by kernel_rfl
theorem Qrg : Qk Tryz.prog 40 = true := by kernel_rfl
def Qjq : Nat → List Nat := fun i => [[], [], [12, 13, 14, 15, 16, 17, 18], [], [], [], [21, 22, 23, 24, 25, 26, 20, 27, 28], [3, 3, 3, 0, 0, 0, 3, 3, 3, 3, 3], [], [], [30], [], [31, 32, 33, 34, 35], [], [36, 37, 38], [], [39], [], [], [], [44, 45], [], [46, 47, 48, 49, 50, 51, 52, 53, 54, 55, 56, 57, 58, 59, 60, 61, 62, 63], [3, 3, 3, 3, 0, 3, 3, 0, 3, 3, 3, 3, 3, 0, 3, 3, 0, 3, 3, 3], [64], [], [65, 66, 67, 68, 69, 70, 71, 72, 73, 74, 75, 76, 77, 78, 79, 80, 81, 82], [3, 3, 3, 3, 0, 1, 3, 3, 3, 0, 0, 1, 1, 3, 3, 3, 2, 2, 3, 2], [83, 84, 85, 86, 87, 88, 89, 90, 91, 92, 93, 94, 95, 96, 97, 98, 99, 100, 101, 102, 103, 104], [3, 3, 3, 3, 3, 0, 3, 3, 1, 1, 3, 3, 3, 0, 3, 3, 1, 2, 3, 3, 2, 3, 3, 2], [105], []].getD i []
theorem Qjl : QH Tryz.prog (fun _ => false) Qjq 41 = some Yu := by kernel_rfl
theorem Qjx : Qk Tryz.prog 41 = true := by kernel_rfl
def Qo8 : Nat → List Nat := fun i => [[], [], [3, 4, 5, 6], []].getD i []
theorem QoO : QH Tryz.prog (fun _ => false) Qo8 42 = some QaP := by kernel_rfl
theorem QpE : Qk Tryz.prog 42 = true := by kernel_rfl
def Qjs : Nat → List Nat := fun i => [[], [], [15, 16, 17, 18, 14, 19, 20], [], [22, 23, 24, 25, 21, 26, 27], [], [28, 29, 30], [], [32, 33, 34, 35, 36, 37], [0, 3, 3, 3, 1, 2, 3], [38, 39, 40, 41, 42, 43, 44, 45, 46, 47, 48, 49, 50], [], [52, 53, 54, 55, 56, 57], [], [], [], [59, 60, 61], [], [62, 63, 64, 65], [], [67], [], [68, 69, 70, 71, 72], [], [74, 75, 76, 77, 78, 79, 80, 81, 82], [], [83, 84, 85, 86, 87, 88, 89], [1, 0, 3, 3, 2, 3, 2, 3], [90], [], [92], [], [93, 94, 95, 96, 97, 98, 99], []].getD i []
theorem Qjn : QH Tryz.prog (fun d => List.contains [37, 87] d) Qjs 43 = some ZE := by kernel_rfl
theorem Qjz : Qk Tryz.prog 43 = true := by kernel_rfl
def Qw5 : Nat → List Nat := fun i => [[], [], [4, 5, 6, 7, 8, 9, 10, 11, 12, 13, 14, 15, 16, 17, 18, 19, 20], [], [21, 22], [], [24], [], [25, 26, 27], []].getD i []
theorem QwT : QH Tryz.prog (fun _ => false) Qw5 44 = some QY := by kernel_rfl
theorem Qxv : Qk Tryz.prog 44 = true := by kernel_rfl
def QqX : Nat → List Nat := fun i => [[], [], [19], [], [20], [], [21, 22], [], [], [], [27, 28], [], [30, 31, 32, 29, 33, 34, 13], [], [35, 36, 37, 38, 39], [0, 3, 3, 0, 1, 2], [40], [], [41, 42, 43], [], [], [], [], [], [48, 49, 50], [], [52, 53, 54, 51, 55, 56], [], [57], [], [], [], [59, 60, 61, 62], [], [63], [], [64], []].getD i []
theorem QqO : QH Tryz.prog (fun _ => false) QqX 45 = some QeE := by kernel_rfl
theorem Qrd : Qk Tryz.prog 45 = true := by kernel_rfl
def QkQ : Nat → List Nat := fun i => [[], [], [5, 6, 7, 8, 9, 10, 11, 12, 13, 14, 15, 16, 17, 18, 19], []].getD i []
theorem QkL : QH Tryz.prog (fun _ => false) QkQ 46 = some YJ := by kernel_rfl
theorem QkY : Qk Tryz.prog 46 = true := by kernel_rfl
def Qw7 : Nat → List Nat := fun i => [[], [], [], [], [], [], [11, 12], [], [13, 14], [], [], [], [16], [], [], []].getD i []
theorem QwV : QH Tryz.prog (fun _ => false) Qw7 47 = some Qkp := by kernel_rfl
theorem Qxx : Qk Tryz.prog 47 = true := by kernel_rfl
def QfY : Nat → List Nat := fun i => [[], [], [], [], [], [], [9], [], [11, 12], [], [13, 14, 15, 16, 17, 18, 19, 20, 21], [], [22, 23, 24, 25, 26, 27], [], [28, 29], [], [30, 31], []].getD i []
theorem QfO : QH Tryz.prog (fun _ => false) QfY 48 = some Yr := by kernel_rfl
theorem Qf6 : Qk Tryz.prog 48 = true := by kernel_rfl
def QfV : Nat → List Nat := fun i => [[], [], [3, 4, 5], []].getD i []
theorem QfL : QH Tryz.prog (fun _ => false) QfV 49 = some Yo := by kernel_rfl
theorem Qf3 : Qk Tryz.prog 49 = true := by kernel_rfl
def QfW : Nat → List Nat := fun i => [[], [], [], [], [], [], [7], [], [9, 10], [], [11, 12, 13], [], [15, 16, 17, 18, 19, 20, 21], [], [22], []].getD i []
theorem QfM : QH Tryz.prog (fun _ => false) QfW 50 = some Yp := by kernel_rfl
theorem Qf4 : Qk Tryz.prog 50 = true := by kernel_rfl
def Qb4 : Nat → List Nat := fun i => [[], [], [9], [], [11, 12, 13, 14, 15], [], [], [], [17], [], [19, 20, 21, 18, 22, 23], [], [24, 25, 26, 27, 28], [], [31, 32, 33, 30, 34, 35], [], [36, 37, 38, 39, 40], [], [42], [], [43], []].getD i []
theorem Qb0 : QH Tryz.prog (fun _ => false) Qb4 51 = some Qp := by kernel_rfl
theorem Qb9 : Qk Tryz.prog 51 = true := by kernel_rfl
def Qep : Nat → List Nat := fun i => [[], [], [], [], [], [], [13], [], [15, 16], [], [17, 18, 19], [], [], [], [21, 22, 23], [], [24], [], [25, 26, 27, 28, 29], [], [31, 32, 33], [], [34, 35, 36, 37], [], [], [], [39, 40, 41, 42, 43], [], [44, 45], []].getD i []
theorem Qei : QH Tryz.prog (fun _ => false) Qep 52 = some XX := by kernel_rfl
theorem Qew : Qk Tryz.prog 52 = true := by kernel_rfl
def QfX : Nat → List Nat := fun i => [[], [], [5, 6, 7, 8, 9], []].getD i []
theorem QfN : QH Tryz.prog (fun _ => false) QfX 53 = some Yq := by kernel_rfl
theorem Qf5 : Qk Tryz.prog 53 = true := by kernel_rfl
def QfU : Nat → List Nat := fun i => [[], [], [], [], [], [], [], []].getD i []
theorem QfK : QH Tryz.prog (fun _ => false) QfU 54 = some Yn := by kernel_rfl
theorem Qf2 : Qk Tryz.prog 54 = true := by kernel_rfl
def Qeq : Nat → List Nat := fun i => [[], [], [], [], [6], [], [8, 9], [], [10, 11, 12, 13, 14, 15], [], [17, 18, 19, 20], [], [], []].getD i []
theorem Qej : QH Tryz.prog (fun _ => false) Qeq 55 = some XY := by kernel_rfl
theorem Qex : Qk Tryz.prog 55 = true := by kernel_rfl
def Qiu : Nat → List Nat := fun i => [[], [], [10], [], [], [], [], [], [11], [], [], [], [], [], [16, 17], [], [18, 19, 20], [], [21], [], [22, 23], [], [24], []].getD i []
theorem Qin : QH Tryz.prog (fun _ => false) Qiu 56 = some Y5 := by kernel_rfl
theorem QiD : Qk Tryz.prog 56 = true := by kernel_rfl
def Qpa : Nat → List Nat := fun i => [[], [], [8, 9, 10], [], [11], [], [14], [], [15], [], [17], [], [18, 19], [], [21], [], [22, 23, 24, 25, 26, 27, 28, 29, 30, 31, 32], [], [33, 34, 35, 36, 37, 38, 39, 40, 41, 42, 43], []].getD i []
theorem QoQ : QH Tryz.prog (fun _ => false) Qpa 57 = some QcT := by kernel_rfl
theorem QpG : Qk Tryz.prog 57 = true := by kernel_rfl
def Qjp : Nat → List Nat := fun i => [[], [], [5, 6, 7], [], [], [], [9], [], [12], [], [], [], [14], [], [15, 16, 17], [], [19], [], [20, 21, 22, 23, 24, 25, 26, 27, 28, 29, 30, 31, 32, 33], [], [35], [], [36, 37, 38, 39, 40, 41, 42, 43, 44, 45, 46, 47, 48, 49, 50, 51, 52, 53, 54, 55], [], [], []].getD i []
theorem Qjk : QH Tryz.prog (fun _ => false) Qjp 58 = some ZA := by kernel_rfl
theorem Qjw : Qk Tryz.prog 58 = true := by kernel_rfl
def Qpb : Nat → List Nat := fun i => [[], [], [3], [], [6], [], [7, 8, 9], [], [11], [], [12, 13, 14, 15, 16], [], [], []].getD i []
theorem QoR : QH Tryz.prog (fun _ => false) Qpb 59 = some QcU := by kernel_rfl
theorem QpH : Qk Tryz.prog 59 = true := by kernel_rfl
def Qjr : Nat → List Nat := fun i => [[], [], [5, 6, 7, 8], []].getD i []
theorem Qjm : QH Tryz.prog (fun _ => false) Qjr 60 = some ZD := by kernel_rfl
theorem Qjy : Qk Tryz.prog 60 = true := by kernel_rfl
def Qiz : Nat → List Nat := fun i => [[], [], [], [], [9], [], [10], [], [11], [], [12], [], [13, 14], [], [16], [], [17, 18], [], [20], [], [21], [], [22], [], [], []].getD i []
theorem Qis : QH Tryz.prog (fun _ => false) Qiz 61 = some XR := by kernel_rfl
theorem QiI : Qk Tryz.prog 61 = true := by kernel_rfl
def QgN : Nat → List Nat := fun i => [[], [], [14], [], [15], [], [16, 17, 18, 19, 20, 21, 22, 23], [], [], [], [28, 29], [], [30, 31, 32, 33, 34], [], [35], [], [37], [], [38], [], [], []].getD i []
theorem QgG : QH Tryz.prog (fun d => List.contains [24, 34] d) QgN 62 = some YF := by kernel_rfl
theorem QgV : Qk Tryz.prog 62 = true := by kernel_rfl
def Qo5 : Nat → List Nat := fun i => [[], [], [5, 6, 7], []].getD i []
theorem QoL : QH Tryz.prog (fun _ => false) Qo5 63 = some QcL := by kernel_rfl
theorem QpB : Qk Tryz.prog 63 = true := by kernel_rfl
def Qo4 : Nat → List Nat := fun i => [[], [], [5, 6, 7], []].getD i []
theorem QoK : QH Tryz.prog (fun _ => false) Qo4 64 = some QcK := by kernel_rfl
theorem QpA : Qk Tryz.prog 64 = true := by kernel_rfl
def Qo3 : Nat → List Nat := fun i => [[], [], [5, 6, 7], []].getD i []
theorem QoJ : QH Tryz.prog (fun _ => false) Qo3 65 = some QcJ := by kernel_rfl
theorem Qpz : Qk Tryz.prog 65 = true := by kernel_rfl
def Qtt : Nat → List Nat := fun i => [[], [], [], [], [7], [], [], [], [9], [], [10, 11], [], [12, 13, 14], []].getD i []
theorem Qtk : QH Tryz.prog (fun _ => false) Qtt 66 = some Qdk := by kernel_rfl
theorem QtN : Qk Tryz.prog 66 = true := by kernel_rfl
def Qtr : Nat → List Nat := fun i => [[], [], [], [], [7], [], [8], [], [10], [], [], [], [11, 12, 13], []].getD i []
theorem Qti : QH Tryz.prog (fun _ => false) Qtr 67 = some Qdj := by kernel_rfl
theorem QtL : Qk Tryz.prog 67 = true := by kernel_rfl
def QqW : Nat → List Nat := fun i => [[], [], [5], [], [], [], [7, 8, 9, 10, 11, 12], []].getD i []
theorem QqN : QH Tryz.prog (fun _ => false) QqW 68 = some QcM := by kernel_rfl
theorem Qrc : Qk Tryz.prog 68 = true := by kernel_rfl
def QqV : Nat → List Nat := fun i => [[], [], [5], [], [7], [], [8, 9, 10, 11, 12, 13], []].getD i []
theorem QqM : QH Tryz.prog (fun _ => false) QqV 69 = some QcC := by kernel_rfl
theorem Qrb : Qk Tryz.prog 69 = true := by kernel_rfl
def Qo2 : Nat → List Nat := fun i => [[], [], [5, 6, 7], []].getD i []
theorem QoI : QH Tryz.prog (fun _ => false) Qo2 70 = some QcI := by kernel_rfl
theorem Qpy : Qk Tryz.prog 70 = true := by kernel_rfl
def Qo1 : Nat → List Nat := fun i => [[], [], [5, 6, 7], []].getD i []
theorem QoH : QH Tryz.prog (fun _ => false) Qo1 71 = some QcH := by kernel_rfl
theorem Qpx : Qk Tryz.prog 71 = true := by kernel_rfl
def Qo0 : Nat → List Nat := fun i => [[], [], [5, 6, 7], []].getD i []
theorem QoG : QH Tryz.prog (fun _ => false) Qo0 72 = some QcG := by kernel_rfl
theorem Qpw : Qk Tryz.prog 72 = true := by kernel_rfl
def QoZ : Nat → List Nat := fun i => [[], [], [5, 6, 7, 8], []].getD i []
theorem QoF : QH Tryz.prog (fun _ => false) QoZ 73 = some QcF := by kernel_rfl
theorem Qpv : Qk Tryz.prog 73 = true := by kernel_rfl
def QoY : Nat → List Nat := fun i => [[], [], [5, 6, 7, 8, 9, 10], []].getD i []
theorem QoE : QH Tryz.prog (fun _ => false) QoY 74 = some QcE := by kernel_rfl
theorem Qpu : Qk Tryz.prog 74 = true := by kernel_rfl
def QoX : Nat → List Nat := fun i => [[], [], [5, 6, 7, 8], []].getD i []
theorem QoD : QH Tryz.prog (fun _ => false) QoX 75 = some QcD := by kernel_rfl
theorem Qpt : Qk Tryz.prog 75 = true := by kernel_rfl
def QmJ : Nat → List Nat := fun i => [[], [], [5, 6, 7, 8], []].getD i []
theorem QmB : QH Tryz.prog (fun _ => false) QmJ 76 = some Qby := by kernel_rfl
theorem QmV : Qk Tryz.prog 76 = true := by kernel_rfl
def Qts : Nat → List Nat := fun i => [[], [], [], [], [], [], [], []].getD i []
theorem Qtj : QH Tryz.prog (fun _ => false) Qts 77 = some Qfm := by kernel_rfl
theorem QtM : Qk Tryz.prog 77 = true := by kernel_rfl
def QmI : Nat → List Nat := fun i => [[], [], [5, 6, 7, 8, 9, 10], []].getD i []
theorem QmA : QH Tryz.prog (fun _ => false) QmI 78 = some Qbx := by kernel_rfl
theorem QmU : Qk Tryz.prog 78 = true := by kernel_rfl
def QmH : Nat → List Nat := fun i => [[], [], [5, 6, 7, 8], []].getD i []
theorem Qmz : QH Tryz.prog (fun _ => false) QmH 79 = some Qbw := by kernel_rfl
theorem QmT : Qk Tryz.prog 79 = true := by kernel_rfl
def Qla : Nat → List Nat := fun i => [[], [], [5], [], [8], [], [9, 10], [], [12], [], [13, 14, 15, 16], [], [18], [], [19, 20, 21, 22, 23, 24, 25, 26, 27, 28], [], [29, 30, 31, 32, 33, 34, 35, 36, 37, 38, 39], []].getD i []
theorem Qk7 : QH Tryz.prog (fun _ => false) Qla 80 = some YH := by kernel_rfl
theorem Qle : Qk Tryz.prog 80 = true := by kernel_rfl
def QkP : Nat → List Nat := fun i => [[], [], [5, 6, 7, 8, 9, 10, 11, 12], [], [], [], [14, 15, 16, 17, 18], []].getD i []
theorem QkK : QH Tryz.prog (fun _ => false) QkP 81 = some YI := by kernel_rfl
theorem QkX : Qk Tryz.prog 81 = true := by kernel_rfl
def Qjo : Nat → List Nat := fun i => [[], [], [10, 11, 12, 13], [], [14], [], [], [], [16, 17, 18, 19, 20, 21], []].getD i []
theorem Qjj : QH Tryz.prog (fun _ => false) Qjo 82 = some Zz := by kernel_rfl
theorem Qjv : Qk Tryz.prog 82 = true := by kernel_rfl
def QdK : Nat → List Nat := fun i => [[], [], [], [], [], [], [], [], [10], [], [12, 13], [], [14, 15], [], [16, 17, 18, 19, 20, 21, 22, 23], [], [24, 25, 26, 27, 28, 29, 30], [], [32, 33, 34, 35], [], [36, 37, 38, 39], [], [40, 41, 42], []].getD i []
theorem QdC : QH Tryz.prog (fun _ => false) QdK 83 = some XP := by kernel_rfl
theorem QdR : Qk Tryz.prog 83 = true := by kernel_rfl
def QdJ : Nat → List Nat := fun i => [[], [], [10, 11], [], [12], [], [14, 15], [], [16], [], [18, 19], [], [21, 22, 23, 20, 24, 25], [], [26, 27, 28, 29], [], [31, 32], [], [33], [], [35, 36], [], [37, 38], []].getD i []
theorem QdB : QH Tryz.prog (fun _ => false) QdJ 84 = some QX := by kernel_rfl
theorem QdQ : Qk Tryz.prog 84 = true := by kernel_rfl
def QfT : Nat → List Nat := fun i => [[8, 9, 10, 11, 12, 13, 14, 15, 16], [], [18, 19], [], [20, 21, 22, 23], [], [24, 25, 26, 27, 28, 29, 30], [], [], [], [35, 36], [], [37, 38, 39], [], [40], []].getD i []
theorem QfJ : QH Tryz.prog (fun _ => false) QfT 85 = some Yl := by kernel_rfl
theorem Qf1 : Qk Tryz.prog 85 = true := by kernel_rfl
def Qbf : Nat → List Nat := fun i => [[3, 4], [], [5, 6, 7, 8, 9, 10], []].getD i []
theorem Qbe : QH Tryz.prog (fun _ => false) Qbf 86 = some Ye := by kernel_rfl
theorem Qbg : Qk Tryz.prog 86 = true := by kernel_rfl
def QgI : Nat → List Nat := fun i => [[], [], [5, 6, 7], []].getD i []
theorem QgB : QH Tryz.prog (fun _ => false) QgI 87 = some QaU := by kernel_rfl
theorem QgQ : Qk Tryz.prog 87 = true := by kernel_rfl
def Qlb : Nat → List Nat := fun i => [[], [], [3, 4], []].getD i []
theorem Qk8 : QH Tryz.prog (fun _ => false) Qlb 88 = some strconv_Itoa := by kernel_rfl
theorem Qlf : Qk Tryz.prog 88 = true := by kernel_rfl
def QqY : Nat → List Nat := fun i => [[], [], [3, 4, 5], []].getD i []
theorem QqP : QH Tryz.prog (fun _ => false) QqY 89 = some QeH := by kernel_rfl
theorem Qre : Qk Tryz.prog 89 = true := by kernel_rfl
def QqZ : Nat → List Nat := fun i => [[], [], [3], [], [6], [], [7], [], [8], [], [10], [], [11, 12, 13], [], [15], [], [16, 17, 18], [], [19], [], [20], []].getD i []
theorem QqQ : QH Tryz.prog (fun _ => false) QqZ 90 = some QeI := by kernel_rfl
theorem Qrf : Qk Tryz.prog 90 = true := by kernel_rfl
def Qeu : Nat → List Nat := fun i => [[], [], [12, 13, 14, 15, 11, 16, 17, 18], [], [19, 20, 21, 22], [], [24, 25, 26, 27, 28, 29, 30, 31, 32, 33], [1, 3, 3, 0, 3, 3, 3, 1, 2, 2, 3], [], []].getD i []
theorem Qen : QH Tryz.prog (fun d => List.contains [32] d) Qeu 91 = some X0 := by kernel_rfl
theorem QeB : Qk Tryz.prog 91 = true := by kernel_rfl
def Qiy : Nat → List Nat := fun i => [[], [], [11, 12, 13, 14, 10, 15, 16, 17], [], [18], [], [], [], [21, 22, 23, 24, 20, 25, 26], [], [27, 28, 29], []].getD i []
theorem Qir : QH Tryz.prog (fun _ => false) Qiy 92 = some Zb := by kernel_rfl
theorem QiH : Qk Tryz.prog 92 = true := by kernel_rfl
def Qet : Nat → List Nat := fun i => [[], [], [8], [], [], [], [10, 11, 12, 13], []].getD i []
theorem Qem : QH Tryz.prog (fun _ => false) Qet 93 = some Xy := by kernel_rfl
theorem QeA : Qk Tryz.prog 93 = true := by kernel_rfl
def QhM : Nat → List Nat := fun i => [[], [], [19, 20, 21, 18, 22, 23, 24], [], [], [], [26, 27, 28, 29, 30, 31, 32, 33], [1, 3, 0, 3, 3, 3, 2, 2, 3], [35, 36, 37, 34, 38, 39, 40], [], [], [], [42, 43, 44, 45, 46, 47, 48, 49], [1, 3, 0, 3, 3, 3, 2, 2, 3], [], [], [], [], [54, 55], [], [57, 58, 59, 60, 56, 61, 62, 63], [], [64, 65, 66, 67], [], [69, 70, 71, 72], [], [73], [], [], []].getD i []
theorem QhG : QH Tryz.prog (fun d => List.contains [32, 48] d) QhM 94 = some YS := by kernel_rfl
theorem QhU : Qk Tryz.prog 94 = true := by kernel_rfl
def QhL : Nat → List Nat := fun i => [[], [], [12, 13, 11, 14, 15], [], [16, 17, 18, 19, 20], [], [22], [], [24, 25, 26, 27, 28, 29, 30, 31], [], [32, 33], [], [35, 36, 37, 38, 39, 40], [], [41, 42], [], [44, 45, 46, 47, 48, 49, 50, 51], [], [52, 53], [], [], []].getD i []
theorem QhF : QH Tryz.prog (fun _ => false) QhL 95 = some YR := by kernel_rfl
theorem QhT : Qk Tryz.prog 95 = true := by kernel_rfl
def QhK : Nat → List Nat := fun i => [[], [], [12, 13, 11, 14, 15], [], [17, 18], [], [19, 20, 21, 22, 23, 24, 25], [1, 3, 0, 3, 3, 2, 2, 3], [27, 28], [], [29, 30, 31, 32, 33, 34, 35, 36], [1, 3, 0, 3, 3, 3, 2, 2, 3], [38, 39, 40, 41, 42, 43, 44, 45, 46, 47, 48, 49], [], [50, 51, 52, 53, 54, 55, 56, 57], [1, 3, 3, 0, 3, 3, 2, 2, 3], [59, 60, 61, 62, 63], [], [64, 65, 66, 67, 68, 69], [1, 3, 0, 3, 2, 2, 3], [71, 72, 73, 74, 75], [], [76, 77, 78, 79, 80, 81, 82], [1, 3, 0, 3, 3, 2, 2, 3], [84, 85, 86, 87, 88, 89], [], [90, 91, 92, 93, 94], [1, 3, 0, 2, 2, 3], [], []].getD i []
theorem QhE : QH Tryz.prog (fun d => List.contains [24, 35, 56, 68, 81, 93] d) QhK 96 = some YQ := by kernel_rfl
theorem QhS : Qk Tryz.prog 96 = true := by kernel_rfl
def QhJ : Nat → List Nat := fun i => [[], [], [13, 14, 15, 16, 17], [], [], [], [19, 20, 21, 22, 23, 24, 25], [], [26, 27, 28, 29, 30, 31], [], [32], [], [34, 35], [], [36, 37, 38, 39, 40, 41], [], [42, 43], [], [45, 46, 47, 48, 49, 50, 51], [], [52, 53, 54, 55, 56, 57, 58, 59, 60, 61, 62], [1, 1, 3, 0, 2, 2, 1, 3, 3, 2, 2, 3], [64, 65, 66, 63, 67, 68, 69], [], [70, 71, 72, 73, 74, 75, 76, 77, 78, 79, 80, 81, 82, 83], [], [85], [], [], []].getD i []
theorem QhD : QH Tryz.prog (fun d => List.contains [56, 57, 61] d) QhJ 97 = some YP := by kernel_rfl
theorem QhR : Qk Tryz.prog 97 = true := by kernel_rfl
def Y2 : Nat → List Nat := fun i => [[], [], [6], [], [], [], [10], [], [11, 12, 13, 14, 15], [], [17], [], [18], [], [], []].getD i []
theorem Y1 : QH Tryz.prog (fun _ => false) Y2 98 = some QF := by kernel_rfl
theorem Y3 : Qk Tryz.prog 98 = true := by kernel_rfl
def QgH : Nat → List Nat := fun i => [[], [], [6, 7, 8, 9, 10, 11, 12, 13, 14, 15, 16, 17, 18, 19, 20, 21], []].getD i []
theorem QgA : QH Tryz.prog (fun _ => false) QgH 99 = some XH := by kernel_rfl
theorem QgP : Qk Tryz.prog 99 = true := by kernel_rfl
def QkR : Nat → List Nat := fun i => [[], [], [12, 13, 14, 15, 11, 16, 17, 10], [], [18, 19, 20, 21, 22, 23, 24, 25], [], [], [], [27, 28, 29, 30], [3, 0, 3, 0, 3, 3, 3]].getD i []
theorem QkM : QH Tryz.prog (fun _ => false) QkR 104 = some Z6 := by kernel_rfl
theorem QkZ : Qk Tryz.prog 104 = true := by kernel_rfl
def Qo7 : Nat → List Nat := fun i => [[], [], [4, 5, 6], [], [], [], [8, 9, 10], []].getD i []
theorem QoN : QH Tryz.prog (fun _ => false) Qo7 105 = some QcO := by kernel_rfl
theorem QpD : Qk Tryz.prog 105 = true := by kernel_rfl
def QdN : Nat → List Nat := fun i => [[], [], [3, 4, 5, 6, 7, 8], [], [9, 10, 11, 12, 13, 14], [], [15, 16, 17, 18, 19], [], [20, 21, 22, 23], [], [24, 25, 26, 27], [], [28, 29, 30, 31], [], [32, 33, 34], []].getD i []
theorem QdF : QH Tryz.prog (fun _ => false) QdN 121 = some XS := by kernel_rfl
theorem QdU : Qk Tryz.prog 121 = true := by kernel_rfl
def QbW : Nat → List Nat := fun i => [[], [], [3], [], [], [], [5, 6, 7, 8, 9, 10, 11, 12, 13], []].getD i []
theorem QbV : QH Tryz.prog (fun _ => false) QbW 122 = some Xj := by kernel_rfl
theorem QbY : Qk Tryz.prog 122 = true := by kernel_rfl
theorem QrS : Qj Tryz.prog tab := fun f A h => by
 unfold tab at h
 split at h
 ·cases h; exact ⟨QcA, _, _, Qcy⟩
 ·cases h; exact ⟨Qcb, _, _, Qb2⟩
 ·cases h; exact ⟨Qde, _, _, Qc6⟩
 ·cases h; exact ⟨QdT, _, _, QdE⟩
 ·cases h; exact ⟨Qcc, _, _, Qb3⟩
 ·cases h; exact ⟨Qez, _, _, Qel⟩
 ·cases h; exact ⟨QdS, _, _, QdD⟩
 ·cases h; exact ⟨Qey, _, _, Qek⟩
 ·cases h; exact ⟨QpI, _, _, QoS⟩
 ·cases h; exact ⟨QtS, _, _, Qtp⟩
 ·cases h; exact ⟨Qxw, _, _, QwU⟩
 ·cases h; exact ⟨QpC, _, _, QoM⟩
 ·cases h; exact ⟨QmW, _, _, QmC⟩
 ·cases h; exact ⟨QpF, _, _, QoP⟩
 ·cases h; exact ⟨Qfi, _, _, Qfd⟩
 ·cases h; exact ⟨Qev, _, _, Qeh⟩
 ·cases h; exact ⟨Qf7, _, _, QfP⟩
 ·cases h; exact ⟨QtR, _, _, Qto⟩
 ·cases h; exact ⟨QgT, _, _, QgE⟩
 ·cases h; exact ⟨Qf8, _, _, QfQ⟩
 ·cases h; exact ⟨QgU, _, _, QgF⟩
 ·cases h; exact ⟨QiF, _, _, Qip⟩
 ·cases h; exact ⟨QgS, _, _, QgD⟩
 ·cases h; exact ⟨QtO, _, _, Qtl⟩
 ·cases h; exact ⟨QiG, _, _, Qiq⟩
 ·cases h; exact ⟨QmX, _, _, QmD⟩
 ·cases h; exact ⟨Qrh, _, _, QqS⟩
 ·cases h; exact ⟨Qfj, _, _, Qfe⟩
 ·cases h; exact ⟨Qdf, _, _, Qc7⟩
 ·cases h; exact ⟨QgR, _, _, QgC⟩
 ·cases h; exact ⟨Qxy, _, _, QwW⟩
 ·cases h; exact ⟨Qca, _, _, Qb1⟩
 ·cases h; exact ⟨QtP, _, _, Qtm⟩
 ·cases h; exact ⟨QtQ, _, _, Qtn⟩
 ·cases h; exact ⟨QiE, _, _, Qio⟩
 ·cases h; exact ⟨Qrg, _, _, QqR⟩
 ·cases h; exact ⟨Qjx, _, _, Qjl⟩
 ·cases h; exact ⟨QpE, _, _, QoO⟩
 ·cases h; exact ⟨Qjz, _, _, Qjn⟩
 ·cases h; exact ⟨Qxv, _, _, QwT⟩
 ·cases h; exact ⟨Qrd, _, _, QqO⟩
 ·cases h; exact ⟨QkY, _, _, QkL⟩
 ·cases h; exact ⟨Qxx, _, _, QwV⟩
 ·cases h; exact ⟨Qf6, _, _, QfO⟩
 ·cases h; exact ⟨Qf3, _, _, QfL⟩
 ·cases h; exact ⟨Qf4, _, _, QfM⟩
 ·cases h; exact ⟨Qb9, _, _, Qb0⟩
 ·cases h; exact ⟨Qew, _, _, Qei⟩
 ·cases h; exact ⟨Qf5, _, _, QfN⟩
 ·cases h; exact ⟨Qf2, _, _, QfK⟩
 ·cases h; exact ⟨Qex, _, _, Qej⟩
 ·cases h; exact ⟨QiD, _, _, Qin⟩
 ·cases h; exact ⟨QpG, _, _, QoQ⟩
 ·cases h; exact ⟨Qjw, _, _, Qjk⟩
 ·cases h; exact ⟨QpH, _, _, QoR⟩
 ·cases h; exact ⟨Qjy, _, _, Qjm⟩
 ·cases h; exact ⟨QiI, _, _, Qis⟩
 ·cases h; exact ⟨QgV, _, _, QgG⟩
 ·cases h; exact ⟨QpB, _, _, QoL⟩
 ·cases h; exact ⟨QpA, _, _, QoK⟩
 ·cases h; exact ⟨Qpz, _, _, QoJ⟩
 ·cases h; exact ⟨QtN, _, _, Qtk⟩
 ·cases h; exact ⟨QtL, _, _, Qti⟩
 ·cases h; exact ⟨Qrc, _, _, QqN⟩
 ·cases h; exact ⟨Qrb, _, _, QqM⟩
 ·cases h; exact ⟨Qpy, _, _, QoI⟩
 ·cases h; exact ⟨Qpx, _, _, QoH⟩
 ·cases h; exact ⟨Qpw, _, _, QoG⟩
 ·cases h; exact ⟨Qpv, _, _, QoF⟩
 ·cases h; exact ⟨Qpu, _, _, QoE⟩
 ·cases h; exact ⟨Qpt, _, _, QoD⟩
 ·cases h; exact ⟨QmV, _, _, QmB⟩
 ·cases h; exact ⟨QtM, _, _, Qtj⟩
 ·cases h; exact ⟨QmU, _, _, QmA⟩
 ·cases h; exact ⟨QmT, _, _, Qmz⟩
 ·cases h; exact ⟨Qle, _, _, Qk7⟩
 ·cases h; exact ⟨QkX, _, _, QkK⟩
 ·cases h; exact ⟨Qjv, _, _, Qjj⟩
 ·cases h; exact ⟨QdR, _, _, QdC⟩
 ·cases h; exact ⟨QdQ, _, _, QdB⟩
 ·cases h; exact ⟨Qf1, _, _, QfJ⟩
 ·cases h; exact ⟨Qbg, _, _, Qbe⟩
 ·cases h; exact ⟨QgQ, _, _, QgB⟩
 ·cases h; exact ⟨Qlf, _, _, Qk8⟩
 ·cases h; exact ⟨Qre, _, _, QqP⟩
 ·cases h; exact ⟨Qrf, _, _, QqQ⟩
 ·cases h; exact ⟨QeB, _, _, Qen⟩
 ·cases h; exact ⟨QiH, _, _, Qir⟩
 ·cases h; exact ⟨QeA, _, _, Qem⟩
 ·cases h; exact ⟨QhU, _, _, QhG⟩
 ·cases h; exact ⟨QhT, _, _, QhF⟩
 ·cases h; exact ⟨QhS, _, _, QhE⟩
 ·cases h; exact ⟨QhR, _, _, QhD⟩
 ·cases h; exact ⟨Y3, _, _, Y1⟩
 ·cases h; exact ⟨QgP, _, _, QgA⟩
 ·cases h; exact ⟨QkZ, _, _, QkM⟩
 ·cases h; exact ⟨QpD, _, _, QoN⟩
 ·cases h; exact ⟨QdU, _, _, QdF⟩
 ·cases h; exact ⟨QbY, _, _, QbV⟩
 ·cases h
end Go.Proofs.YtpdeoalocejodaaGreatDoor
