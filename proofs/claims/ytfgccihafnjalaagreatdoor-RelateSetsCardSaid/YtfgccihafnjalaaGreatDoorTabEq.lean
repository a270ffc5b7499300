/- The translations are so. -/
import Derived.Test.YtfgccihafnjalaaGreatDoorTabB
import Derived.Test.YtfgccihafnjalaaGreatDoorProg
namespace Go.Proofs.YtfgccihafnjalaaGreatDoor
open Go Go.Am
set_option maxRecDepth 100000
def QbO : Nat → List Nat := fun i => [[], [], [10, 11, 12, 13, 14, 15, 16], [], [18], [], [19, 20, 21, 22], [], [], [], [], [], [23, 24, 25], [], [27, 28], [], [29, 30, 31, 32, 33, 34, 35, 36, 37], [], [38, 39, 40, 41, 42, 43, 44, 45, 46, 47, 48, 49, 50, 51, 52, 53, 54, 55, 56, 57, 58], [], [59, 60, 61, 62, 63, 64, 65, 66, 67, 68, 69, 70, 71, 72], []].getD i []
theorem QbL : Qn Tryz.prog (fun _ => false) QbO 3 = some Ql := by kernel_rfl
theorem QbU : Qf Tryz.prog 3 = true := by kernel_rfl
def Qen : Nat → List Nat := fun i => [[], [], [8, 9, 10], [], [11, 12, 13, 14, 15, 16, 17, 18, 19, 20, 21], [], [22], [], [24, 25, 26, 27, 28, 29, 30, 31, 32, 33, 34, 35, 23, 36, 37, 7], [3, 0, 3, 0, 3, 0, 3, 0, 3, 2, 1, 2, 3, 3, 3, 1, 2, 3], [38, 39, 40, 41, 42, 43, 44, 45, 46, 47, 48, 49, 50, 51, 52, 53, 54, 55, 56, 57, 58, 59, 60, 61, 62, 63, 64, 65, 66, 67, 68, 69, 70, 71, 72, 73, 74, 75, 76, 77, 78, 79, 80, 81, 82, 83, 84, 85, 86, 87, 88, 89, 90, 91, 92, 93, 94, 95, 96, 97, 98, 99, 100, 101, 102, 103, 104, 105, 106, 107, 108, 109, 110, 111, 112, 113, 114, 115, 116], [3, 3, 3, 3, 3, 3, 0, 0, 3, 3, 3, 3, 3, 0, 3, 3, 3, 3, 3, 3, 0, 3, 3, 3, 3, 3, 0, 3, 0, 3, 0, 3, 0, 3, 3, 3, 3, 0, 3, 0, 3, 3, 3, 0, 3, 3, 3, 3, 0, 3, 0, 3, 3, 0, 3, 0, 3, 3, 3, 3, 1, 3, 1, 3, 2, 3, 3, 3, 3, 3, 0, 3, 0, 3, 0, 3, 0, 3, 3, 3]].getD i []
theorem Qeh : Qn Tryz.prog (fun d => List.contains [35, 102] d) Qen 8 = some proofmarklaw25_works := by kernel_rfl
theorem Qet : Qf Tryz.prog 8 = true := by kernel_rfl
def Qeo : Nat → List Nat := fun i => [[], [], [], [], [], [], [5, 6, 7], [], [9, 10], [], [11, 12, 13, 14, 15, 16, 17, 18, 19, 20, 21, 22, 23, 24, 25, 26, 27, 28, 29, 30, 31], [3, 3, 3, 3, 3, 0, 3, 3, 3, 3, 3, 0, 3, 3, 3, 3, 3, 0, 3, 2, 2, 3], [32], []].getD i []
theorem Qei : Qn Tryz.prog (fun _ => false) Qeo 9 = some Xi := by kernel_rfl
theorem Qeu : Qf Tryz.prog 9 = true := by kernel_rfl
def QfL : Nat → List Nat := fun i => [[], [], [], [], [6, 7, 8], [], [10, 11], [], [12, 13, 14, 15, 16], [3, 3, 3, 0, 0, 3], [], [], [], []].getD i []
theorem QfJ : Qn Tryz.prog (fun _ => false) QfL 10 = some Xu := by kernel_rfl
theorem QfN : Qf Tryz.prog 10 = true := by kernel_rfl
def Qfh : Nat → List Nat := fun i => [[], [], [7, 8], [], [9, 10, 11, 12], [], [], [], [], [], [14, 15, 16], [], [18, 19], [], [20, 21, 22, 23, 24, 25, 26, 27], [3, 3, 3, 0, 3, 3, 3, 0, 3], [], [], [], []].getD i []
theorem Qfc : Qn Tryz.prog (fun _ => false) Qfh 11 = some Q8 := by kernel_rfl
theorem Qfm : Qf Tryz.prog 11 = true := by kernel_rfl
def Qlc : Nat → List Nat := fun i => [[], [], [4, 5], [], [6, 7], [], [8, 9], []].getD i []
theorem Qk2 : Qn Tryz.prog (fun _ => false) Qlc 12 = some ZE := by kernel_rfl
theorem Qlq : Qf Tryz.prog 12 = true := by kernel_rfl
def QdK : Nat → List Nat := fun i => [[], [], [], [], [], [], [6, 7, 8], [], [10, 11], [], [12, 13, 14, 15, 16], [], [18, 19, 20, 21, 22, 23, 24], [], [25, 26, 27], [], [28, 29, 30, 31, 32, 33, 34, 35, 36, 37, 38, 39, 40], [3, 3, 3, 3, 3, 3, 0, 3, 3, 3, 3, 0, 2, 3], [42, 43], [], [44, 45, 46, 47, 48, 49, 50, 51, 52, 53, 54, 55, 56, 57, 58, 59], [3, 3, 3, 3, 3, 3, 3, 3, 3, 0, 3, 3, 3, 0, 3, 2, 3, 2], [60], []].getD i []
theorem QdF : Qn Tryz.prog (fun _ => false) QdK 13 = some Xd := by kernel_rfl
theorem QdP : Qf Tryz.prog 13 = true := by kernel_rfl
def QnF : Nat → List Nat := fun i => [[], [], [6, 7], [], [8, 9, 10, 11], []].getD i []
theorem QnA : Qn Tryz.prog (fun _ => false) QnF 14 = some Qbq := by kernel_rfl
theorem QnL : Qf Tryz.prog 14 = true := by kernel_rfl
def Qfg : Nat → List Nat := fun i => [[], [], [], [], [], [], [7, 8, 9], [], [11, 12], [], [13, 14, 15, 16, 17], [], [19, 20, 21, 22, 23, 24, 25], [], [26, 27], []].getD i []
theorem Qfb : Qn Tryz.prog (fun _ => false) Qfg 15 = some Q7 := by kernel_rfl
theorem Qfl : Qf Tryz.prog 15 = true := by kernel_rfl
def Qlb : Nat → List Nat := fun i => [[], [], [6, 7], [], [8, 9, 10, 11], []].getD i []
theorem Qk1 : Qn Tryz.prog (fun _ => false) Qlb 16 = some ZD := by kernel_rfl
theorem Qlp : Qf Tryz.prog 16 = true := by kernel_rfl
def QcF : Nat → List Nat := fun i => [[], [], [7, 8, 9], [], [10, 11, 12], [], [13], [], [15, 16, 17, 18, 19, 20, 21, 22, 23], [], [25, 26, 27, 24, 28, 29, 6], [], [30, 31], [], [33], [], [34, 35, 36], []].getD i []
theorem QcD : Qn Tryz.prog (fun _ => false) QcF 17 = some XW := by kernel_rfl
theorem QcI : Qf Tryz.prog 17 = true := by kernel_rfl
def Qsy : Nat → List Nat := fun i => [[], [], [1, 2, 3], []].getD i []
theorem Qss : Qn Tryz.prog (fun _ => false) Qsy 18 = some QgV := by kernel_rfl
theorem QsP : Qf Tryz.prog 18 = true := by kernel_rfl
def Qmc : Nat → List Nat := fun i => [[], [], [31, 32, 33, 34, 35, 30, 36, 37], [], [38, 39, 40, 41, 42], [0, 3, 1, 0, 3, 1, 2], [43, 44], [], [45, 46, 47, 48], [], [], [], [], [], [53, 54], [], [55, 56, 57, 58, 59, 60, 61, 62], [], [63], [], [64], [], [], [], [], [], [69, 70], [], [71, 72, 73, 74, 75], [], [77, 78, 79, 76, 80, 81, 24], [], [82, 83, 84, 85, 86, 87, 88], [], [90, 91, 92, 93, 94, 95, 96], [1, 1, 0, 3, 3, 0, 2, 2], [97], [], [98], [], [99, 100, 101, 102], [], [103, 104], [], [], [], [108], [], [109, 110, 111, 112, 113, 114, 115, 116], [3, 1, 3, 3, 3, 3, 2, 3, 2], [117], [], [], [], [], [], [122, 123], [], [124, 125], [], [128], [], [129, 130, 131, 132, 133, 134, 135, 136, 137, 138, 139], [3, 3, 1, 3, 3, 0, 3, 2, 3, 3, 3, 2], [141], [], [142, 143, 144, 145, 146, 147, 148, 149, 150, 151, 152, 153], [3, 3, 1, 3, 3, 1, 3, 3, 0, 3, 2, 3, 2], [154], [], [155, 156], [0, 1, 2, 3]].getD i []
theorem Ql2 : Qn Tryz.prog (fun d => List.contains [35, 62, 96, 101, 115, 136, 152] d) Qmc 19 = some relate_Fresh := by kernel_rfl
theorem Qmm : Qf Tryz.prog 19 = true := by kernel_rfl
def QoW : Nat → List Nat := fun i => [[], [], [5, 6, 7, 8], []].getD i []
theorem QoM : Qn Tryz.prog (fun _ => false) QoW 20 = some QcW := by kernel_rfl
theorem Qpm : Qf Tryz.prog 20 = true := by kernel_rfl
def QoX : Nat → List Nat := fun i => [[], [], [13, 14], [], [15], [], [16, 17, 18, 19], [], [], [], [], [], [22], [], [], [], [24, 25, 26, 27, 28], [], [30], [], [31, 32, 33, 34, 35], [], [37], [], [38, 39, 40], [], [41], [], [42, 43, 44, 45, 46, 47], [], [], [], [51, 52, 53, 54, 55, 56, 57], [3, 1, 3, 2, 1, 2, 3, 2], [58], [], [59, 60], [0, 1, 2, 3]].getD i []
theorem QoN : Qn Tryz.prog (fun d => List.contains [26, 33, 54] d) QoX 24 = some Qc0 := by kernel_rfl
theorem Qpn : Qf Tryz.prog 24 = true := by kernel_rfl
def QsC : Nat → List Nat := fun i => [[], [], [5, 6, 7, 8], []].getD i []
theorem Qsw : Qn Tryz.prog (fun _ => false) QsC 25 = some Qg9 := by kernel_rfl
theorem QsT : Qf Tryz.prog 25 = true := by kernel_rfl
def YQ : Nat → List Nat := fun i => [[], [], [3], [], [], [], [5, 6, 7], []].getD i []
theorem YN : Qn Tryz.prog (fun _ => false) YQ 29 = some Qr := by kernel_rfl
theorem YT : Qf Tryz.prog 29 = true := by kernel_rfl
def Yi : Nat → List Nat := fun i => [[5, 6], [], [7, 8, 9, 10, 11, 12, 13], []].getD i []
theorem Yf : Qn Tryz.prog (fun _ => false) Yi 30 = some QK := by kernel_rfl
theorem Yl : Qf Tryz.prog 30 = true := by kernel_rfl
def Yr : Nat → List Nat := fun i => [[], [], [6, 7], [], [9], [], [], [], [10, 11, 12], [], [14, 15], [], [16, 17, 18, 19, 20, 21, 22, 23, 24], [3, 3, 3, 0, 3, 3, 3, 3, 0, 3], [26, 27, 28], [], [], [], [29, 30, 31], [], [33, 34], [], [35, 36, 37, 38, 39, 40, 41, 42, 43], [3, 3, 3, 0, 3, 3, 3, 3, 0, 3], [45, 46, 47, 48, 49, 50, 51], [], [52, 53], [], [54, 55, 56], [], [57, 58, 59], [], [60], []].getD i []
theorem Yq : Qn Tryz.prog (fun _ => false) Yr 32 = some Qk := by kernel_rfl
theorem Ys : Qf Tryz.prog 32 = true := by kernel_rfl
def QdL : Nat → List Nat := fun i => [[], [], [5, 6, 7, 8], [], [10, 11, 12, 13, 14], [], [15, 16, 17, 18], [], [20, 21, 22, 23, 24], [], [25, 26, 27, 28, 29], []].getD i []
theorem QdG : Qn Tryz.prog (fun _ => false) QdL 33 = some QN := by kernel_rfl
theorem QdQ : Qf Tryz.prog 33 = true := by kernel_rfl
def QoT : Nat → List Nat := fun i => [[], [], [6], [], [], [], [], [], [11, 12], [], [13, 14], [], [15], [], [16], []].getD i []
theorem QoJ : Qn Tryz.prog (fun _ => false) QoT 34 = some QcU := by kernel_rfl
theorem Qpj : Qf Tryz.prog 34 = true := by kernel_rfl
def XY : Nat → List Nat := fun i => [[], [], [8, 9, 10], [], [11], [], [13], [], [14, 15], [], [16, 17, 18], [], [20, 21], [], [22, 23, 24, 25], [], [26, 27, 28], [], [30, 31, 32, 33], [], [34, 35], [], [36, 37, 38], [], [39, 40, 41], []].getD i []
theorem XX : Qn Tryz.prog (fun _ => false) XY 35 = some Qg := by kernel_rfl
theorem XZ : Qf Tryz.prog 35 = true := by kernel_rfl
def Qjk : Nat → List Nat := fun i => [[], [], [4, 5, 6, 7], []].getD i []
theorem Qi9 : Qn Tryz.prog (fun _ => false) Qjk 36 = some Y4 := by kernel_rfl
theorem Qjx : Qf Tryz.prog 36 = true := by kernel_rfl
def XM : Nat → List Nat := fun i => [[], [], [5, 6, 7, 8], []].getD i []
theorem XL : Qn Tryz.prog (fun _ => false) XM 37 = some Qm := by kernel_rfl
theorem XN : Qf Tryz.prog 37 = true := by kernel_rfl
def Qhv : Nat → List Nat := fun i => [[], [], [4, 5, 6, 7], []].getD i []
theorem Qht : Qn Tryz.prog (fun _ => false) Qhv 38 = some X0 := by kernel_rfl
theorem QhA : Qf Tryz.prog 38 = true := by kernel_rfl
def QoV : Nat → List Nat := fun i => [[], [], [8, 9], [], [11], [], [], [], [12, 13], [], [], [], [17], [], [19, 20, 21, 18, 22, 23], [], [24, 25], [], [27], [0, 3, 2], [28, 29, 30, 31], [], [32], [], [33, 34], []].getD i []
theorem QoL : Qn Tryz.prog (fun d => List.contains [30] d) QoV 39 = some QhO := by kernel_rfl
theorem Qpl : Qf Tryz.prog 39 = true := by kernel_rfl
def QfM : Nat → List Nat := fun i => [[], [], [10, 11], [], [], [], [12, 13, 14], [], [16, 17], [], [18, 19, 20, 21, 22, 23, 24, 25, 26, 27, 28, 29, 30, 31, 32, 33, 34, 35, 36, 37, 38, 39], [], [], [], [40, 41, 42, 43, 44, 45], [], [47, 48], [], [50, 51, 52, 53, 54, 55, 56, 57, 49, 58, 59], [], [60], [], [62, 63, 64, 65, 66, 67], [], [68], []].getD i []
theorem QfK : Qn Tryz.prog (fun _ => false) QfM 40 = some ZF := by kernel_rfl
theorem QfO : Qf Tryz.prog 40 = true := by kernel_rfl
def Qih : Nat → List Nat := fun i => [[], [], [5, 6, 7, 8, 9, 10, 11], []].getD i []
theorem Qia : Qn Tryz.prog (fun _ => false) Qih 41 = some Yy := by kernel_rfl
theorem Qiq : Qf Tryz.prog 41 = true := by kernel_rfl
def Qmb : Nat → List Nat := fun i => [[], [], [7, 8, 9, 10, 11, 12, 13, 14], [], [], [], [16, 17], [], [20], [], [21, 22, 23, 24], [], [26], [], [27, 28, 29, 30, 31, 32, 33, 34, 35, 36, 37], [], [38, 39, 40, 41], []].getD i []
theorem Ql1 : Qn Tryz.prog (fun _ => false) Qmb 42 = some QV := by kernel_rfl
theorem Qml : Qf Tryz.prog 42 = true := by kernel_rfl
def QaG : Nat → List Nat := fun i => [[], [], [8, 9, 10, 11, 12, 13], [0, 0, 1, 0, 0, 2, 1, 1, 2, 2], [14, 15], [], [17, 18, 19, 20], []].getD i []
theorem QaD : Qn Tryz.prog (fun _ => false) QaG 43 = some Qy := by kernel_rfl
theorem QaJ : Qf Tryz.prog 43 = true := by kernel_rfl
def QaF : Nat → List Nat := fun i => [[], [], [8, 9, 10, 11, 7, 12, 13], [], [14], [], [16], [], [17], []].getD i []
theorem QaC : Qn Tryz.prog (fun _ => false) QaF 44 = some QG := by kernel_rfl
theorem QaI : Qf Tryz.prog 44 = true := by kernel_rfl
def Qig : Nat → List Nat := fun i => [[], [], [10, 11, 12], [], [14, 15, 16, 13, 17, 18, 8], [], [19], [], [21, 22, 23, 24, 25], [1, 1, 0, 0, 2, 2], [26, 27], [], [28, 29, 30], []].getD i []
theorem Qh9 : Qn Tryz.prog (fun d => List.contains [25] d) Qig 45 = some Yx := by kernel_rfl
theorem Qip : Qf Tryz.prog 45 = true := by kernel_rfl
def Qji : Nat → List Nat := fun i => [[], [], [12, 13, 14, 15, 16, 17, 18], [], [], [], [21, 22, 23, 24, 25, 26, 20, 27, 28], [3, 3, 3, 0, 0, 0, 3, 3, 3, 3, 3], [], [], [30], [], [31, 32, 33, 34, 35], [], [36, 37, 38], [], [39], [], [], [], [44, 45], [], [46, 47, 48, 49, 50, 51, 52, 53, 54, 55, 56, 57, 58, 59, 60, 61, 62, 63], [3, 3, 3, 3, 0, 3, 3, 0, 3, 3, 3, 3, 3, 0, 3, 3, 0, 3, 3, 3], [64], [], [65, 66, 67, 68, 69, 70, 71, 72, 73, 74, 75, 76, 77, 78, 79, 80, 81, 82], [3, 3, 3, 3, 0, 1, 3, 3, 3, 0, 0, 1, 1, 3, 3, 3, 2, 2, 3, 2], [83, 84, 85, 86, 87, 88, 89, 90, 91, 92, 93, 94, 95, 96, 97, 98, 99, 100, 101, 102, 103, 104], [3, 3, 3, 3, 3, 0, 3, 3, 1, 1, 3, 3, 3, 0, 3, 3, 1, 2, 3, 3, 2, 3, 3, 2], [105], []].getD i []
theorem Qi6 : Qn Tryz.prog (fun _ => false) Qji 46 = some Y2 := by kernel_rfl
theorem Qju : Qf Tryz.prog 46 = true := by kernel_rfl
def Qlg : Nat → List Nat := fun i => [[], [], [3, 4], [], [5, 6, 7, 8], []].getD i []
theorem Qk6 : Qn Tryz.prog (fun _ => false) Qlg 50 = some ZK := by kernel_rfl
theorem Qlu : Qf Tryz.prog 50 = true := by kernel_rfl
def Qlf : Nat → List Nat := fun i => [[], [], [3, 4, 5], [], [6, 7], []].getD i []
theorem Qk5 : Qn Tryz.prog (fun _ => false) Qlf 54 = some Qdv := by kernel_rfl
theorem Qlt : Qf Tryz.prog 54 = true := by kernel_rfl
def X3 : Nat → List Nat := fun i => [[], [], [6], [], [], [], [10], [], [11, 12, 13, 14, 15], [], [17], [], [18], [], [], []].getD i []
theorem X2 : Qn Tryz.prog (fun _ => false) X3 59 = some Qi := by kernel_rfl
theorem X5 : Qf Tryz.prog 59 = true := by kernel_rfl
def QnG : Nat → List Nat := fun i => [[], [], [7], [], [], [], [8], [], [9, 10, 11, 12, 13], [], [14, 15, 16], []].getD i []
theorem QnB : Qn Tryz.prog (fun d => List.contains [13] d) QnG 60 = some Qgw := by kernel_rfl
theorem QnM : Qf Tryz.prog 60 = true := by kernel_rfl
def Qmd : Nat → List Nat := fun i => [[], [], [17, 18, 19, 16, 20, 21], [], [22, 23, 24, 25, 26, 27, 28, 29, 30, 31, 32], [0, 3, 0, 3, 3, 3, 0, 3, 3, 3, 2, 3], [33], [], [34, 35, 36, 37, 38, 39], [], [], [], [44, 45, 46], [], [48, 49, 47, 50, 51], [], [52], [], [54, 55, 56], [], [57, 58, 59, 60, 61, 62, 63, 64, 65, 66, 67, 68], [3, 3, 3, 3, 3, 0, 0, 1, 2, 3, 3, 3, 2], [69], [], [70, 71, 72, 73, 74, 75, 76, 77, 78, 79, 80, 81], [], [82, 83, 84, 85, 86], [], [], [], [90], [], [91, 92, 93], [], [95, 96, 97, 98], [], [99, 100, 101], [], [102], [], [104, 105, 106, 107, 108], [], [109], [], [110, 111, 112, 113, 114, 115, 116, 117, 118], [], [119, 120, 121, 122, 123], []].getD i []
theorem Ql3 : Qn Tryz.prog (fun _ => false) Qmd 61 = some QeL := by kernel_rfl
theorem Qmn : Qf Tryz.prog 61 = true := by kernel_rfl
def Qqt : Nat → List Nat := fun i => [[], [], [8, 9, 10, 7, 11, 12], [], [], [], [13, 14, 15, 16, 17, 18, 19, 20, 21, 22, 23, 24, 25, 26, 27, 28, 29, 30, 31, 32, 33, 34, 35, 36, 37, 38, 39, 40, 41, 42, 43, 44, 45, 46, 47, 48, 49, 50, 51, 52, 53, 54, 55], [], [], [], [57, 58, 59, 60, 61], [], [], [], [63, 64, 65, 66, 67, 68, 69, 70, 71, 72, 73, 74, 75, 76, 77, 78, 79, 80, 81, 82, 83, 84, 85, 86, 87, 88, 89], [3, 0, 3, 0, 3, 3, 0, 3, 3, 0, 3, 3, 0, 3, 3, 0, 3, 3, 0, 3, 3, 0, 3, 0, 1, 2, 2, 3, 3]].getD i []
theorem Qqo : Qn Tryz.prog (fun _ => false) Qqt 62 = some Qbp := by kernel_rfl
theorem QqF : Qf Tryz.prog 62 = true := by kernel_rfl
def QoU : Nat → List Nat := fun i => [[], [], [3, 4, 5, 6, 7, 8, 9, 10, 11, 12], []].getD i []
theorem QoK : Qn Tryz.prog (fun _ => false) QoU 63 = some Xp := by kernel_rfl
theorem Qpk : Qf Tryz.prog 63 = true := by kernel_rfl
def Qjh : Nat → List Nat := fun i => [[], [], [5, 6, 7], [], [], [], [9], [], [12], [], [], [], [14], [], [15, 16, 17], [], [19], [], [20, 21, 22, 23, 24, 25, 26, 27, 28, 29, 30, 31, 32, 33], [], [35], [], [36, 37, 38, 39, 40, 41, 42, 43, 44, 45, 46, 47, 48, 49, 50, 51, 52, 53, 54, 55], [], [], []].getD i []
theorem Qi5 : Qn Tryz.prog (fun _ => false) Qjh 64 = some Y1 := by kernel_rfl
theorem Qjt : Qf Tryz.prog 64 = true := by kernel_rfl
def QoQ : Nat → List Nat := fun i => [[], [], [8, 9, 10], [], [11], [], [14], [], [15], [], [17], [], [18, 19], [], [21], [], [22, 23, 24, 25, 26, 27, 28, 29, 30, 31, 32], [], [33, 34, 35, 36, 37, 38, 39, 40, 41, 42, 43], []].getD i []
theorem QoG : Qn Tryz.prog (fun _ => false) QoQ 65 = some QcN := by kernel_rfl
theorem Qpg : Qf Tryz.prog 65 = true := by kernel_rfl
def QoR : Nat → List Nat := fun i => [[], [], [3], [], [6], [], [7, 8, 9], [], [11], [], [12, 13, 14, 15, 16], [], [], []].getD i []
theorem QoH : Qn Tryz.prog (fun _ => false) QoR 66 = some QcO := by kernel_rfl
theorem Qph : Qf Tryz.prog 66 = true := by kernel_rfl
def Qk9 : Nat → List Nat := fun i => [[], [], [5, 6, 7, 8, 9, 10, 11, 12, 13, 14, 15, 16, 17, 18, 19], []].getD i []
theorem QkZ : Qn Tryz.prog (fun _ => false) Qk9 68 = some Zx := by kernel_rfl
theorem Qln : Qf Tryz.prog 68 = true := by kernel_rfl
def Qik : Nat → List Nat := fun i => [[], [], [3], [], [5, 6], [], [], [], [7], [], [9, 10], [], [11, 12], [], [13, 14, 15, 16, 17, 18], []].getD i []
theorem Qid : Qn Tryz.prog (fun _ => false) Qik 77 = some Qbx := by kernel_rfl
theorem Qit : Qf Tryz.prog 77 = true := by kernel_rfl
def Qij : Nat → List Nat := fun i => [[], [], [3], [], [5, 6], [], [], [], [7], [], [9, 10], [], [11, 12], [], [13], [], [15, 16], [], [17, 18], [], [19, 20, 21, 22, 23, 24], []].getD i []
theorem Qic : Qn Tryz.prog (fun _ => false) Qij 78 = some Qbw := by kernel_rfl
theorem Qis : Qf Tryz.prog 78 = true := by kernel_rfl
def Qlh : Nat → List Nat := fun i => [[], [], [3, 4, 5], []].getD i []
theorem Qk7 : Qn Tryz.prog (fun _ => false) Qlh 79 = some cmp_isNaN_int := by kernel_rfl
theorem Qlv : Qf Tryz.prog 79 = true := by kernel_rfl
def Qil : Nat → List Nat := fun i => [[], [], [3, 4, 5], []].getD i []
theorem Qie : Qn Tryz.prog (fun _ => false) Qil 80 = some QbQ := by kernel_rfl
theorem Qiu : Qf Tryz.prog 80 = true := by kernel_rfl
def Qjq : Nat → List Nat := fun i => [[], [], [7, 8, 9, 10, 11], [], [12, 13, 14, 15, 16, 17, 18, 19, 20, 21, 22, 23, 24, 25, 26, 27, 28, 29, 30, 31, 32, 33, 34, 35, 36, 37, 38, 39, 40, 41, 42, 43, 44, 45, 46, 47, 48, 49], [], [50, 51], [], [52], []].getD i []
theorem Qjf : Qn Tryz.prog (fun _ => false) Qjq 82 = some QcB := by kernel_rfl
theorem QjD : Qf Tryz.prog 82 = true := by kernel_rfl
def Qjp : Nat → List Nat := fun i => [[], [], [2, 3, 4, 5, 6, 7, 8, 9, 10, 11, 12, 13, 14, 15], []].getD i []
theorem Qje : Qn Tryz.prog (fun _ => false) Qjp 83 = some QcA := by kernel_rfl
theorem QjC : Qf Tryz.prog 83 = true := by kernel_rfl
def Qjo : Nat → List Nat := fun i => [[], [], [2, 3, 4, 5, 6, 7, 8, 9, 10, 11], []].getD i []
theorem Qjd : Qn Tryz.prog (fun _ => false) Qjo 84 = some Qcz := by kernel_rfl
theorem QjB : Qf Tryz.prog 84 = true := by kernel_rfl
def Qjn : Nat → List Nat := fun i => [[], [], [2, 3, 4, 5, 6, 7, 8, 9, 10, 11, 12, 13, 14, 15, 16, 17, 18, 19], []].getD i []
theorem Qjc : Qn Tryz.prog (fun _ => false) Qjn 85 = some Qcy := by kernel_rfl
theorem QjA : Qf Tryz.prog 85 = true := by kernel_rfl
def Qjm : Nat → List Nat := fun i => [[], [], [3, 4, 5, 6, 7], []].getD i []
theorem Qjb : Qn Tryz.prog (fun _ => false) Qjm 86 = some Qcx := by kernel_rfl
theorem Qjz : Qf Tryz.prog 86 = true := by kernel_rfl
def Yj : Nat → List Nat := fun i => [[], [], [5, 6, 7, 8], []].getD i []
theorem Yg : Qn Tryz.prog (fun _ => false) Yj 87 = some QL := by kernel_rfl
theorem Ym : Qf Tryz.prog 87 = true := by kernel_rfl
def Yk : Nat → List Nat := fun i => [[], [], [5, 6, 7, 8], []].getD i []
theorem Yh : Qn Tryz.prog (fun _ => false) Yk 88 = some QM := by kernel_rfl
theorem Yn : Qf Tryz.prog 88 = true := by kernel_rfl
def Qjl : Nat → List Nat := fun i => [[], [], [3, 4, 5], []].getD i []
theorem Qja : Qn Tryz.prog (fun _ => false) Qjl 89 = some Qcw := by kernel_rfl
theorem Qjy : Qf Tryz.prog 89 = true := by kernel_rfl
def Qme : Nat → List Nat := fun i => [[], [], [7, 8, 9, 10, 11, 12, 13, 14, 15, 16, 17, 18, 19], [], [], [], [21, 22, 23, 24], [], [25, 26, 27, 28, 29], [], [31, 32, 33, 34, 35, 36, 37], [], [38, 39, 40, 41, 42, 43, 44], []].getD i []
theorem Ql4 : Qn Tryz.prog (fun _ => false) Qme 90 = some Qe1 := by kernel_rfl
theorem Qmo : Qf Tryz.prog 90 = true := by kernel_rfl
def Qqu : Nat → List Nat := fun i => [[], [], [10], [], [11, 12, 13], [], [14], [], [16], [], [17, 18, 19], [], [20, 21, 22, 23, 24, 25, 26], [], [27, 28, 29, 30, 31, 32, 33, 34, 35, 36, 37, 38, 39, 40, 41, 42, 43, 44], [], [], [], [49, 50], [], [51], [], [53, 54, 55, 56, 57, 58, 59, 60], [3, 0, 3, 0, 0, 1, 3, 3, 2], [61], [], [62], []].getD i []
theorem Qqp : Qn Tryz.prog (fun d => List.contains [45] d) Qqu 91 = some QeJ := by kernel_rfl
theorem QqG : Qf Tryz.prog 91 = true := by kernel_rfl
def Qle : Nat → List Nat := fun i => [[], [], [4, 5, 6], [], [7, 8, 9, 10, 11, 12, 13, 14, 15, 16, 17, 18, 19, 20, 21, 22, 23, 24, 25, 26, 27, 28, 29, 30, 31], [], [], [], [33], []].getD i []
theorem Qk4 : Qn Tryz.prog (fun _ => false) Qle 92 = some Qdo := by kernel_rfl
theorem Qls : Qf Tryz.prog 92 = true := by kernel_rfl
def Qel : Nat → List Nat := fun i => [[], [], [8, 9, 10, 11, 12, 13, 14, 15, 16, 17, 18, 19, 20], [], [], [], [], [], [25, 26], [], [27, 28, 29, 30], [], [32, 33], [], [34], [], [], []].getD i []
theorem Qef : Qn Tryz.prog (fun d => List.contains [20] d) Qel 93 = some YX := by kernel_rfl
theorem Qer : Qf Tryz.prog 93 = true := by kernel_rfl
def QgE : Nat → List Nat := fun i => [[], [], [10], [], [11, 12], [], [], [], [16], [], [17, 18], [], [], [], [23, 24], [], [25, 26, 27, 28], [], [29], [], [30], [], [], [], [31], [], [33], [], [35, 36, 37], [], [38], [], [40, 41, 42, 43], [], [44, 45], [], [46], []].getD i []
theorem Qgz : Qn Tryz.prog (fun _ => false) QgE 94 = some Z6 := by kernel_rfl
theorem QgK : Qf Tryz.prog 94 = true := by kernel_rfl
def QDw : Nat → List Nat := fun i => [[], [], [5], [], [6, 7, 8, 9, 10, 11], [], [13], [], [14, 15, 16], []].getD i []
theorem QDu : Qn Tryz.prog (fun _ => false) QDw 95 = some Qui := by kernel_rfl
theorem QDT : Qf Tryz.prog 95 = true := by kernel_rfl
def Ql9 : Nat → List Nat := fun i => [[], [], [5, 6, 7, 8, 9, 10, 11, 12, 13], []].getD i []
theorem QlZ : Qn Tryz.prog (fun _ => false) Ql9 96 = some Qau := by kernel_rfl
theorem Qmj : Qf Tryz.prog 96 = true := by kernel_rfl
def Ql8 : Nat → List Nat := fun i => [[], [], [7, 8, 9], [0, 2, 3, 3, 3], [10], [], [12, 13, 14, 15, 16], [], [17, 18, 19, 20, 21, 22, 23, 24, 25, 26, 27, 28, 29, 30, 31, 32, 33], []].getD i []
theorem QlY : Qn Tryz.prog (fun _ => false) Ql8 97 = some Qat := by kernel_rfl
theorem Qmi : Qf Tryz.prog 97 = true := by kernel_rfl
def QnD : Nat → List Nat := fun i => [[], [], [], [], [], [], [], [], [10, 11], [], [12, 13, 14], [], [15], [], [16], []].getD i []
theorem Qny : Qn Tryz.prog (fun _ => false) QnD 98 = some Qbo := by kernel_rfl
theorem QnJ : Qf Tryz.prog 98 = true := by kernel_rfl
def Qa0 : Nat → List Nat := fun i => [[], [], [], [], [8, 9, 10, 11], [], [12, 13], [], [], [], [17, 18, 19, 20, 21, 22, 23, 24, 25, 26, 27, 28], [0, 0, 3, 0, 3, 3, 3, 3, 3, 0, 3, 3, 2], [29, 30, 31, 32], [], [33], []].getD i []
theorem Qi7 : Qn Tryz.prog (fun _ => false) Qa0 99 = some Qcr := by kernel_rfl
theorem Qjv : Qf Tryz.prog 99 = true := by kernel_rfl
theorem Qqe : (rngOf Tryz.prog 99 0).map (fun r => (Q0 Tryz.prog 34 (fun _ => false) Qa0 (rngA r), Qqw (rngA r))) = some (some Qg7, true) := by kernel_rfl
theorem Qqd : (rngOf Tryz.prog 99 0).map (fun r => (Q0 Tryz.prog 34 (fun _ => false) Qa0 (rngB r), Qqw (rngB r))) = some (some Qg6, true) := by kernel_rfl
def Qqr : Nat → List Nat := fun i => [[], [], [3], [], [6], [], [7], [], [8], [], [10], [], [11, 12, 13], [], [15], [], [16, 17, 18], [], [19], [], [20], []].getD i []
theorem Qqm : Qn Tryz.prog (fun _ => false) Qqr 100 = some QeC := by kernel_rfl
theorem QqD : Qf Tryz.prog 100 = true := by kernel_rfl
def QgC : Nat → List Nat := fun i => [[], [], [5, 6, 7], []].getD i []
theorem Qgx : Qn Tryz.prog (fun _ => false) QgC 101 = some Z2 := by kernel_rfl
theorem QgI : Qf Tryz.prog 101 = true := by kernel_rfl
def Ql7 : Nat → List Nat := fun i => [[], [], [3, 4], []].getD i []
theorem QlX : Qn Tryz.prog (fun _ => false) Ql7 102 = some strconv_Itoa := by kernel_rfl
theorem Qmh : Qf Tryz.prog 102 = true := by kernel_rfl
def Qqq : Nat → List Nat := fun i => [[], [], [3, 4, 5], []].getD i []
theorem Qql : Qn Tryz.prog (fun _ => false) Qqq 103 = some QeB := by kernel_rfl
theorem QqC : Qf Tryz.prog 103 = true := by kernel_rfl
def YO : Nat → List Nat := fun i => [[], [], [6], [], [], [], [10], [], [11, 12, 13, 14, 15], [], [17], [], [18], [], [], []].getD i []
theorem YL : Qn Tryz.prog (fun _ => false) YO 109 = some QQ := by kernel_rfl
theorem YR : Qf Tryz.prog 109 = true := by kernel_rfl
def YP : Nat → List Nat := fun i => [[], [], [6], [], [], [], [10], [], [11, 12, 13, 14, 15], [], [17], [], [18], [], [], []].getD i []
theorem YM : Qn Tryz.prog (fun _ => false) YP 110 = some QR := by kernel_rfl
theorem YS : Qf Tryz.prog 110 = true := by kernel_rfl
def QsA : Nat → List Nat := fun i => [[], [], [10], [], [11, 12, 13], [], [14, 15, 16], [], [17, 18, 19], [], [20, 21, 22, 23], [], [24, 25, 26, 27, 28, 29], [], [30, 31, 32], [], [33, 34, 35, 36, 37, 38], [], [39], [], [40, 41, 42, 43, 44, 45, 46, 47, 48, 49, 50, 51, 52, 53, 54, 55, 56, 57, 58, 59, 60, 61, 62, 63, 64, 65, 66, 67, 68, 69, 70, 71, 72, 73, 74, 75, 76, 77, 78, 79, 80, 81, 82, 83, 84, 85, 86, 87, 88, 89, 90, 91, 92, 93, 94, 95, 96, 97, 98, 99, 100, 101, 102, 103, 104, 105, 106, 107, 108, 109, 110, 111, 112, 113, 114, 115, 116, 117, 118, 119, 120, 121, 122, 123, 124, 125, 126, 127, 128, 129, 130, 131, 132, 133, 134, 135, 136, 137, 138, 139, 140, 141, 142, 143, 144, 145, 146, 147, 148, 149, 150, 151, 152, 153, 154, 155, 156, 157, 158, 159, 160, 161, 162, 163, 164, 165, 166, 167, 168, 169, 170], [0, 1, 0, 1, 0, 1, 0, 1, 0, 1, 0, 1, 0, 1, 0, 1, 0, 1, 0, 1, 0, 1, 0, 1, 0, 1, 0, 1, 0, 1, 0, 1, 0, 1, 0, 1, 0, 1, 0, 1, 0, 1, 0, 1, 0, 1, 0, 1, 0, 1, 0, 1, 0, 1, 0, 1, 0, 1, 0, 1, 0, 1, 0, 1, 0, 1, 0, 1, 0, 1, 0, 1, 0, 1, 0, 1, 0, 1, 0, 1, 0, 1, 0, 1, 0, 1, 0, 1, 0, 1, 0, 1, 0, 1, 0, 1, 0, 1, 0, 1, 0, 1, 0, 1, 0, 1, 0, 1, 0, 1, 0, 1, 0, 1, 0, 1, 0, 1, 0, 1, 0, 1, 0, 1, 0, 1, 0, 1, 0, 2, 3, 2]].getD i []
theorem Qsu : Qn Tryz.prog (fun _ => false) QsA 111 = some Qm6 := by kernel_rfl
theorem QsR : Qf Tryz.prog 111 = true := by kernel_rfl
def ZS : Nat → List Nat := fun i => [[], [], [6], [], [], [], [10], [], [11, 12, 13, 14, 15], [], [17], [], [18], [], [], []].getD i []
theorem ZR : Qn Tryz.prog (fun _ => false) ZS 112 = some QB := by kernel_rfl
theorem ZT : Qf Tryz.prog 112 = true := by kernel_rfl
def Qma : Nat → List Nat := fun i => [[], [], [4, 5, 6, 7, 8, 9, 10, 11, 12, 13, 14, 15, 16, 17], []].getD i []
theorem Ql0 : Qn Tryz.prog (fun _ => false) Qma 113 = some Zp := by kernel_rfl
theorem Qmk : Qf Tryz.prog 113 = true := by kernel_rfl
def Qjj : Nat → List Nat := fun i => [[], [], [], [], [8], [], [], [], [13, 14], [], [15, 16, 17, 18, 19, 20, 21, 22, 23], [3, 3, 0, 3, 0, 3, 1, 3, 3, 3], [24], [], [25, 26, 27, 28], [], [29], [], [31, 32, 33, 34, 35, 36, 37, 38, 39], [3, 0, 1, 3, 3, 0, 2, 3, 3, 3], [40], []].getD i []
theorem Qi8 : Qn Tryz.prog (fun _ => false) Qjj 114 = some Y3 := by kernel_rfl
theorem Qjw : Qf Tryz.prog 114 = true := by kernel_rfl
def QoS : Nat → List Nat := fun i => [[], [], [5, 6, 7, 8, 9, 10, 11, 12, 13], [3, 3, 0, 3, 3, 0, 3, 3, 3, 3]].getD i []
theorem QoI : Qn Tryz.prog (fun _ => false) QoS 115 = some QcS := by kernel_rfl
theorem Qpi : Qf Tryz.prog 115 = true := by kernel_rfl
def QgD : Nat → List Nat := fun i => [[], [], [7, 8, 9, 10, 11, 12, 13, 14, 15], [], [16], [], [17, 18, 19, 20, 21, 22, 23, 24, 25, 26, 27, 28, 29, 30, 31], []].getD i []
theorem Qgy : Qn Tryz.prog (fun _ => false) QgD 116 = some Z5 := by kernel_rfl
theorem QgJ : Qf Tryz.prog 116 = true := by kernel_rfl
def Qej : Nat → List Nat := fun i => [[], [], [8, 9, 10, 11, 12, 13, 14, 15], [], [16, 17, 18, 19, 20, 21, 22, 23, 24, 25, 26, 27, 28, 29, 30, 31, 32], [], [], [], [35, 36, 34, 37, 38], [], [39, 40, 41, 42], [], [], [], [44, 45, 46], [], [], [], [48], [], [51], [], [], [], [53], [], [54], [], [55, 56, 57], [], [], []].getD i []
theorem Qed : Qn Tryz.prog (fun _ => false) Qej 117 = some YV := by kernel_rfl
theorem Qep : Qf Tryz.prog 117 = true := by kernel_rfl
def QdI : Nat → List Nat := fun i => [[], [], [8, 9, 10, 11, 12, 13, 14, 15], [], [17, 18], [], [19, 20, 21, 22, 23], [], [24, 25, 26, 27, 28, 29, 30, 31, 32, 33, 34, 35, 36, 37, 38, 39, 40, 41, 42, 43, 44, 45, 46, 47, 48, 49, 50, 51, 52, 53, 54, 55, 56, 57, 58], [], [60, 61, 62], [], [63, 64, 65, 66, 67, 68, 69, 70, 71, 72, 73], [3, 3, 3, 3, 0, 3, 3, 3, 3, 0, 3, 1, 2], [74, 75, 76, 77, 78, 79, 80, 81, 82, 83, 84, 85], [], [], []].getD i []
theorem QdD : Qn Tryz.prog (fun _ => false) QdI 118 = some Yz := by kernel_rfl
theorem QdN : Qf Tryz.prog 118 = true := by kernel_rfl
def Qfe : Nat → List Nat := fun i => [[], [], [5, 6, 7, 8, 9, 10, 11, 12, 13, 14, 15, 16, 17, 18, 19, 20, 21, 22], []].getD i []
theorem Qe9 : Qn Tryz.prog (fun _ => false) Qfe 119 = some Y7 := by kernel_rfl
theorem Qfj : Qf Tryz.prog 119 = true := by kernel_rfl
def QgF : Nat → List Nat := fun i => [[], [], [7, 8, 9, 10, 11, 12, 13, 14, 15, 16, 17, 18, 19, 20, 21, 22, 23, 24], [], [], [], [26, 27, 28, 29, 30], [], [], [], [31], [], [33, 34, 35, 36, 37, 38, 39, 40], [], [41, 42, 43, 44, 45, 46], [], [48, 49, 50, 51, 52], [], [53, 54], [], [55, 56, 57, 58], []].getD i []
theorem QgA : Qn Tryz.prog (fun _ => false) QgF 120 = some Z7 := by kernel_rfl
theorem QgL : Qf Tryz.prog 120 = true := by kernel_rfl
def Qfd : Nat → List Nat := fun i => [[3, 4], [], [5, 6, 7, 8, 9, 10], []].getD i []
theorem Qe8 : Qn Tryz.prog (fun _ => false) Qfd 121 = some Y6 := by kernel_rfl
theorem Qfi : Qf Tryz.prog 121 = true := by kernel_rfl
def Qla : Nat → List Nat := fun i => [[], [], [6, 7], [], [8], [], [], [], [13, 14], [], [15, 16, 17, 18], [], [19], [], [20], []].getD i []
theorem Qk0 : Qn Tryz.prog (fun _ => false) Qla 122 = some ZB := by kernel_rfl
theorem Qlo : Qf Tryz.prog 122 = true := by kernel_rfl
def Qsz : Nat → List Nat := fun i => [[], [], [11, 12, 13, 14, 15, 16, 17, 18, 19, 20, 21, 22, 23, 24], [0, 3, 3, 3, 3, 0, 3, 3, 3, 0, 3, 1, 1, 3, 2]].getD i []
theorem Qst : Qn Tryz.prog (fun _ => false) Qsz 127 = some Qm5 := by kernel_rfl
theorem QsQ : Qf Tryz.prog 127 = true := by kernel_rfl
def Qek : Nat → List Nat := fun i => [[], [], [6, 7, 8, 9, 10, 11, 12, 13], []].getD i []
theorem Qee : Qn Tryz.prog (fun _ => false) Qek 128 = some YW := by kernel_rfl
theorem Qeq : Qf Tryz.prog 128 = true := by kernel_rfl
def QaZ : Nat → List Nat := fun i => [[], [], [5, 6, 7, 8], []].getD i []
theorem QaX : Qn Tryz.prog (fun _ => false) QaZ 129 = some Xm := by kernel_rfl
theorem Qa3 : Qf Tryz.prog 129 = true := by kernel_rfl
def QdJ : Nat → List Nat := fun i => [[], [], [5, 6, 7, 8, 9, 10, 11, 12, 13, 14, 15, 16, 17, 18, 19, 20, 21, 22], []].getD i []
theorem QdE : Qn Tryz.prog (fun _ => false) QdJ 130 = some YA := by kernel_rfl
theorem QdO : Qf Tryz.prog 130 = true := by kernel_rfl
def Qqs : Nat → List Nat := fun i => [[], [], [9, 10, 8, 11, 12, 4], [], [14, 15, 16, 13, 17, 18, 7], [], [19, 20, 21, 22, 23, 24, 25, 26, 27, 28, 29, 30], [], [], [], [32, 33], []].getD i []
theorem Qqn : Qn Tryz.prog (fun _ => false) Qqs 131 = some Qkt := by kernel_rfl
theorem QqE : Qf Tryz.prog 131 = true := by kernel_rfl
def QsB : Nat → List Nat := fun i => [[], [], [7, 8, 6, 9, 10, 3], [], [11], [], [], [], [13, 14, 15, 16, 17], [], [18, 19], [], [20, 21], [], [22, 23], []].getD i []
theorem Qsv : Qn Tryz.prog (fun d => List.contains [17, 19, 21, 23] d) QsB 132 = some Qm7 := by kernel_rfl
theorem QsS : Qf Tryz.prog 132 = true := by kernel_rfl
def Qld : Nat → List Nat := fun i => [[], [], [3, 4, 5, 6, 7, 8, 9, 10, 11, 12, 13, 14], []].getD i []
theorem Qk3 : Qn Tryz.prog (fun _ => false) Qld 133 = some Qdn := by kernel_rfl
theorem Qlr : Qf Tryz.prog 133 = true := by kernel_rfl
def Qff : Nat → List Nat := fun i => [[], [], [5, 6, 7, 8, 9, 10, 11, 12, 13, 14, 15, 16, 17, 18, 19], []].getD i []
theorem Qfa : Qn Tryz.prog (fun _ => false) Qff 134 = some Y8 := by kernel_rfl
theorem Qfk : Qf Tryz.prog 134 = true := by kernel_rfl
def Qb5 : Nat → List Nat := fun i => [[], [], [4, 5, 6, 7], []].getD i []
theorem Qb2 : Qn Tryz.prog (fun _ => false) Qb5 135 = some XK := by kernel_rfl
theorem Qb8 : Qf Tryz.prog 135 = true := by kernel_rfl
def QgG : Nat → List Nat := fun i => [[], [], [8, 9, 10, 11, 12, 13, 14, 15, 16, 17, 18, 19], [], [20, 21, 22, 23, 24, 25, 26, 27], [], [], [], [29], [], [], [], [34, 35, 36], [], [37, 38, 39, 40, 41, 42, 43, 44, 45, 46], [], [], [], [48], [], [], []].getD i []
theorem QgB : Qn Tryz.prog (fun _ => false) QgG 136 = some Z8 := by kernel_rfl
theorem QgM : Qf Tryz.prog 136 = true := by kernel_rfl
def Qhw : Nat → List Nat := fun i => [[], [], [3, 4, 5, 6, 7, 8, 9, 10], []].getD i []
theorem Qhu : Qn Tryz.prog (fun _ => false) Qhw 137 = some QaO := by kernel_rfl
theorem QhB : Qf Tryz.prog 137 = true := by kernel_rfl
def QbN : Nat → List Nat := fun i => [[], [], [8, 9, 10], [], [11], [], [13], [], [14, 15], [], [16, 17, 18], [], [20, 21], [], [22, 23, 24, 25], [], [26, 27, 28], [], [30, 31, 32, 33], [], [34, 35], [], [36, 37, 38], [], [39, 40, 41], []].getD i []
theorem QbK : Qn Tryz.prog (fun _ => false) QbN 138 = some Xx := by kernel_rfl
theorem QbT : Qf Tryz.prog 138 = true := by kernel_rfl
def Qc8 : Nat → List Nat := fun i => [[], [], [6, 7], [], [9], [], [], [], [10, 11, 12], [], [14, 15], [], [16, 17, 18, 19, 20, 21, 22, 23, 24], [3, 3, 3, 0, 3, 3, 3, 3, 0, 3], [26, 27, 28], [], [], [], [29, 30, 31], [], [33, 34], [], [35, 36, 37, 38, 39, 40, 41, 42, 43], [3, 3, 3, 0, 3, 3, 3, 3, 0, 3], [45, 46, 47, 48, 49, 50, 51], [], [52, 53], [], [54, 55, 56], [], [57, 58, 59], [], [60], []].getD i []
theorem Qc7 : Qn Tryz.prog (fun _ => false) Qc8 139 = some X9 := by kernel_rfl
theorem Qdc : Qf Tryz.prog 139 = true := by kernel_rfl
def Qem : Nat → List Nat := fun i => [[], [], [4, 5, 6, 7, 8, 9, 10, 11, 12], []].getD i []
theorem Qeg : Qn Tryz.prog (fun _ => false) Qem 140 = some YY := by kernel_rfl
theorem Qes : Qf Tryz.prog 140 = true := by kernel_rfl
def QbM : Nat → List Nat := fun i => [[], [], [], [], [19, 20, 21], [], [22], [], [24, 25, 26, 27], [], [28], [], [30, 31, 32, 33], [], [34], [], [36, 37, 38, 39], [], [40, 41], [], [43, 44, 45, 46, 42, 47, 48], [], [49], [], [51, 52, 53, 54], [], [55, 56, 57, 58, 59, 60], [], [], [], [61, 62, 63, 64, 65, 66, 67], [], [69, 70, 71], [], [73, 74, 75, 76, 77, 78, 79, 80, 81, 82, 83, 84, 85, 86], [3, 3, 3, 3, 3, 3, 3, 0, 3, 3, 3, 0, 2, 3, 3], [88, 89, 90, 91, 92], [], [93], [], [95, 96, 97, 98, 99, 94, 100, 101], [], [102], [], [103, 104, 105, 106, 107, 108], [], [109, 110], [], [111, 112], [], [114, 115, 116], [], [117, 118, 119, 120, 121], [], [122, 123], [], [124, 125, 126], [], [127, 128, 129, 130, 131, 132], [], [133], []].getD i []
theorem QbJ : Qn Tryz.prog (fun _ => false) QbM 141 = some Xw := by kernel_rfl
theorem QbS : Qf Tryz.prog 141 = true := by kernel_rfl
def Qb3 : Nat → List Nat := fun i => [[], [], [6], [], [], [], [10], [], [11, 12, 13, 14, 15], [], [17], [], [18], [], [], []].getD i []
theorem Qb0 : Qn Tryz.prog (fun _ => false) Qb3 147 = some XI := by kernel_rfl
theorem Qb6 : Qf Tryz.prog 147 = true := by kernel_rfl
def Qii : Nat → List Nat := fun i => [[], [], [7, 8, 9, 10, 11, 12, 13, 14, 15, 16, 17, 18, 19, 20, 21, 22, 23, 24], [3, 3, 3, 3, 3, 0, 3, 3, 3, 3, 3, 0, 3, 3, 0, 0, 3, 3, 3]].getD i []
theorem Qib : Qn Tryz.prog (fun _ => false) Qii 148 = some Qbr := by kernel_rfl
theorem Qir : Qf Tryz.prog 148 = true := by kernel_rfl
def QcE : Nat → List Nat := fun i => [[3, 4], [], [5, 6, 7, 8, 9, 10], []].getD i []
theorem QcC : Qn Tryz.prog (fun d => List.contains [10] d) QcE 149 = some XV := by kernel_rfl
theorem QcH : Qf Tryz.prog 149 = true := by kernel_rfl
def Qbd : Nat → List Nat := fun i => [[], [], [6, 7], [], [9], [], [], [], [10, 11, 12], [], [14, 15], [], [16, 17, 18, 19, 20, 21, 22, 23, 24], [3, 3, 3, 0, 3, 3, 3, 3, 0, 3], [26, 27, 28], [], [], [], [29, 30, 31], [], [33, 34], [], [35, 36, 37, 38, 39, 40, 41, 42, 43], [3, 3, 3, 0, 3, 3, 3, 3, 0, 3], [45, 46, 47, 48, 49, 50, 51], [], [52, 53], [], [54, 55, 56], [], [57, 58, 59], [], [60], []].getD i []
theorem Qbc : Qn Tryz.prog (fun _ => false) Qbd 150 = some Xo := by kernel_rfl
theorem Qbe : Qf Tryz.prog 150 = true := by kernel_rfl
def Qag : Nat → List Nat := fun i => [[], [], [8, 9, 10], [], [11], [], [13], [], [14, 15], [], [16, 17, 18], [], [20, 21], [], [22, 23, 24, 25], [], [26, 27, 28], [], [30, 31, 32, 33], [], [34, 35], [], [36, 37, 38], [], [39, 40, 41], []].getD i []
theorem Qaf : Qn Tryz.prog (fun _ => false) Qag 151 = some Xh := by kernel_rfl
theorem Qah : Qf Tryz.prog 151 = true := by kernel_rfl
def QnE : Nat → List Nat := fun i => [[], [], [3, 4], []].getD i []
theorem Qnz : Qn Tryz.prog (fun _ => false) QnE 152 = some Qgj := by kernel_rfl
theorem QnK : Qf Tryz.prog 152 = true := by kernel_rfl
def Qb4 : Nat → List Nat := fun i => [[], [], [6], [], [], [], [10], [], [11, 12, 13, 14, 15], [], [17], [], [18], [], [], []].getD i []
theorem Qb1 : Qn Tryz.prog (fun _ => false) Qb4 153 = some XJ := by kernel_rfl
theorem Qb7 : Qf Tryz.prog 153 = true := by kernel_rfl
def ZN : Nat → List Nat := fun i => [[8, 9], [], [10, 11], [], [13, 14], [], [15], [], [16, 17, 18, 19, 20, 21, 22, 23, 24, 25, 26, 27, 28, 29], [3, 3, 3, 3, 3, 3, 3, 0, 3, 3, 3, 3, 0, 2, 3], [31, 32], [], [33, 34, 35, 36, 37, 38, 39, 40, 41, 42, 43, 44, 45, 46, 47, 48], [3, 3, 3, 3, 3, 3, 3, 3, 3, 0, 3, 3, 3, 0, 3, 2, 3, 2]].getD i []
theorem ZL : Qn Tryz.prog (fun _ => false) ZN 154 = some Q6 := by kernel_rfl
theorem ZP : Qf Tryz.prog 154 = true := by kernel_rfl
def Qmf : Nat → List Nat := fun i => [[], [], [5, 6, 7, 8, 9, 10, 11, 12, 13, 14, 15, 16], []].getD i []
theorem Ql5 : Qn Tryz.prog (fun _ => false) Qmf 160 = some cmp_Less_int := by kernel_rfl
theorem Qmp : Qf Tryz.prog 160 = true := by kernel_rfl
def QaY : Nat → List Nat := fun i => [[], [], [], [], [19, 20, 21], [], [22], [], [24, 25, 26, 27], [], [28], [], [30, 31, 32, 33], [], [34], [], [36, 37, 38, 39], [], [40, 41], [], [43, 44, 45, 46, 42, 47, 48], [], [49], [], [51, 52, 53, 54], [], [55, 56, 57, 58, 59, 60], [], [], [], [61, 62, 63, 64, 65, 66, 67], [], [69, 70, 71], [], [73, 74, 75, 76, 77, 78, 79, 80, 81, 82, 83, 84, 85, 86], [3, 3, 3, 3, 3, 3, 3, 0, 3, 3, 3, 0, 2, 3, 3], [88, 89, 90, 91, 92], [], [93], [], [95, 96, 97, 98, 99, 94, 100, 101], [], [102], [], [103, 104, 105, 106, 107, 108], [], [109, 110], [], [111, 112], [], [114, 115, 116], [], [117, 118, 119, 120, 121], [], [122, 123], [], [124, 125, 126], [], [127, 128, 129, 130, 131, 132], [], [133], []].getD i []
theorem QaW : Qn Tryz.prog (fun d => List.contains [27] d) QaY 167 = some Xl := by kernel_rfl
theorem Qa2 : Qf Tryz.prog 167 = true := by kernel_rfl
def QaE : Nat → List Nat := fun i => [[], [], [6], [], [], [], [10], [], [11, 12, 13, 14, 15], [], [17], [], [18], [], [], []].getD i []
theorem QaB : Qn Tryz.prog (fun _ => false) QaE 168 = some Xk := by kernel_rfl
theorem QaH : Qf Tryz.prog 168 = true := by kernel_rfl
def Zd : Nat → List Nat := fun i => [[8, 9], [], [10, 11], [], [13, 14], [], [15], [], [16, 17, 18, 19, 20, 21, 22, 23, 24, 25, 26, 27, 28, 29], [3, 3, 3, 3, 3, 3, 3, 0, 3, 3, 3, 3, 0, 2, 3], [31, 32], [], [33, 34, 35, 36, 37, 38, 39, 40, 41, 42, 43, 44, 45, 46, 47, 48], [3, 3, 3, 3, 3, 3, 3, 3, 3, 0, 3, 3, 3, 0, 3, 2, 3, 2]].getD i []
theorem Zc : Qn Tryz.prog (fun _ => false) Zd 174 = some QY := by kernel_rfl
theorem Ze : Qf Tryz.prog 174 = true := by kernel_rfl
def Qjr : Nat → List Nat := fun i => [[], [], [5, 6, 7, 8, 9, 10, 11, 12, 13, 14, 15, 16], []].getD i []
theorem Qjg : Qn Tryz.prog (fun _ => false) Qjr 180 = some QcG := by kernel_rfl
theorem QjE : Qf Tryz.prog 180 = true := by kernel_rfl
theorem QCG : Qw Tryz.prog tab0 := fun f A h => by
 unfold tab0 at h
 split at h
 ·cases h; exact ⟨QbU, _, _, QbL⟩
 ·cases h; exact ⟨Qet, _, _, Qeh⟩
 ·cases h; exact ⟨Qeu, _, _, Qei⟩
 ·cases h; exact ⟨QfN, _, _, QfJ⟩
 ·cases h; exact ⟨Qfm, _, _, Qfc⟩
 ·cases h; exact ⟨Qlq, _, _, Qk2⟩
 ·cases h; exact ⟨QdP, _, _, QdF⟩
 ·cases h; exact ⟨QnL, _, _, QnA⟩
 ·cases h; exact ⟨Qfl, _, _, Qfb⟩
 ·cases h; exact ⟨Qlp, _, _, Qk1⟩
 ·cases h; exact ⟨QcI, _, _, QcD⟩
 ·cases h; exact ⟨QsP, _, _, Qss⟩
 ·cases h; exact ⟨Qmm, _, _, Ql2⟩
 ·cases h; exact ⟨Qpm, _, _, QoM⟩
 ·cases h; exact ⟨Qpn, _, _, QoN⟩
 ·cases h; exact ⟨QsT, _, _, Qsw⟩
 ·cases h; exact ⟨YT, _, _, YN⟩
 ·cases h; exact ⟨Yl, _, _, Yf⟩
 ·cases h; exact ⟨Ys, _, _, Yq⟩
 ·cases h; exact ⟨QdQ, _, _, QdG⟩
 ·cases h; exact ⟨Qpj, _, _, QoJ⟩
 ·cases h; exact ⟨XZ, _, _, XX⟩
 ·cases h; exact ⟨Qjx, _, _, Qi9⟩
 ·cases h; exact ⟨XN, _, _, XL⟩
 ·cases h; exact ⟨QhA, _, _, Qht⟩
 ·cases h; exact ⟨Qpl, _, _, QoL⟩
 ·cases h; exact ⟨QfO, _, _, QfK⟩
 ·cases h; exact ⟨Qiq, _, _, Qia⟩
 ·cases h; exact ⟨Qml, _, _, Ql1⟩
 ·cases h; exact ⟨QaJ, _, _, QaD⟩
 ·cases h; exact ⟨QaI, _, _, QaC⟩
 ·cases h; exact ⟨Qip, _, _, Qh9⟩
 ·cases h; exact ⟨Qju, _, _, Qi6⟩
 ·cases h; exact ⟨Qlu, _, _, Qk6⟩
 ·cases h; exact ⟨Qlt, _, _, Qk5⟩
 ·cases h; exact ⟨X5, _, _, X2⟩
 ·cases h; exact ⟨QnM, _, _, QnB⟩
 ·cases h; exact ⟨Qmn, _, _, Ql3⟩
 ·cases h; exact ⟨QqF, _, _, Qqo⟩
 ·cases h; exact ⟨Qpk, _, _, QoK⟩
 ·cases h; exact ⟨Qjt, _, _, Qi5⟩
 ·cases h; exact ⟨Qpg, _, _, QoG⟩
 ·cases h; exact ⟨Qph, _, _, QoH⟩
 ·cases h; exact ⟨Qln, _, _, QkZ⟩
 ·cases h
theorem QCF : Qw Tryz.prog tab1 := fun f A h => by
 unfold tab1 at h
 split at h
 ·cases h; exact ⟨Qit, _, _, Qid⟩
 ·cases h; exact ⟨Qis, _, _, Qic⟩
 ·cases h; exact ⟨Qlv, _, _, Qk7⟩
 ·cases h; exact ⟨Qiu, _, _, Qie⟩
 ·cases h; exact ⟨QjD, _, _, Qjf⟩
 ·cases h; exact ⟨QjC, _, _, Qje⟩
 ·cases h; exact ⟨QjB, _, _, Qjd⟩
 ·cases h; exact ⟨QjA, _, _, Qjc⟩
 ·cases h; exact ⟨Qjz, _, _, Qjb⟩
 ·cases h; exact ⟨Ym, _, _, Yg⟩
 ·cases h; exact ⟨Yn, _, _, Yh⟩
 ·cases h; exact ⟨Qjy, _, _, Qja⟩
 ·cases h; exact ⟨Qmo, _, _, Ql4⟩
 ·cases h; exact ⟨QqG, _, _, Qqp⟩
 ·cases h; exact ⟨Qls, _, _, Qk4⟩
 ·cases h; exact ⟨Qer, _, _, Qef⟩
 ·cases h; exact ⟨QgK, _, _, Qgz⟩
 ·cases h; exact ⟨QDT, _, _, QDu⟩
 ·cases h; exact ⟨Qmj, _, _, QlZ⟩
 ·cases h; exact ⟨Qmi, _, _, QlY⟩
 ·cases h; exact ⟨QnJ, _, _, Qny⟩
 ·cases h; exact ⟨Qjv, _, _, Qi7⟩
 ·cases h; exact ⟨QqD, _, _, Qqm⟩
 ·cases h; exact ⟨QgI, _, _, Qgx⟩
 ·cases h; exact ⟨Qmh, _, _, QlX⟩
 ·cases h; exact ⟨QqC, _, _, Qql⟩
 ·cases h; exact ⟨YR, _, _, YL⟩
 ·cases h; exact ⟨YS, _, _, YM⟩
 ·cases h; exact ⟨QsR, _, _, Qsu⟩
 ·cases h; exact ⟨ZT, _, _, ZR⟩
 ·cases h; exact ⟨Qmk, _, _, Ql0⟩
 ·cases h; exact ⟨Qjw, _, _, Qi8⟩
 ·cases h; exact ⟨Qpi, _, _, QoI⟩
 ·cases h; exact ⟨QgJ, _, _, Qgy⟩
 ·cases h; exact ⟨Qep, _, _, Qed⟩
 ·cases h; exact ⟨QdN, _, _, QdD⟩
 ·cases h; exact ⟨Qfj, _, _, Qe9⟩
 ·cases h; exact ⟨QgL, _, _, QgA⟩
 ·cases h; exact ⟨Qfi, _, _, Qe8⟩
 ·cases h; exact ⟨Qlo, _, _, Qk0⟩
 ·cases h; exact ⟨QsQ, _, _, Qst⟩
 ·cases h; exact ⟨Qeq, _, _, Qee⟩
 ·cases h; exact ⟨Qa3, _, _, QaX⟩
 ·cases h; exact ⟨QdO, _, _, QdE⟩
 ·cases h; exact ⟨QqE, _, _, Qqn⟩
 ·cases h; exact ⟨QsS, _, _, Qsv⟩
 ·cases h; exact ⟨Qlr, _, _, Qk3⟩
 ·cases h; exact ⟨Qfk, _, _, Qfa⟩
 ·cases h; exact ⟨Qb8, _, _, Qb2⟩
 ·cases h; exact ⟨QgM, _, _, QgB⟩
 ·cases h; exact ⟨QhB, _, _, Qhu⟩
 ·cases h; exact ⟨QbT, _, _, QbK⟩
 ·cases h; exact ⟨Qdc, _, _, Qc7⟩
 ·cases h; exact ⟨Qes, _, _, Qeg⟩
 ·cases h; exact ⟨QbS, _, _, QbJ⟩
 ·cases h
theorem QCE : Qw Tryz.prog tab2 := fun f A h => by
 unfold tab2 at h
 split at h
 ·cases h; exact ⟨Qb6, _, _, Qb0⟩
 ·cases h; exact ⟨Qir, _, _, Qib⟩
 ·cases h; exact ⟨QcH, _, _, QcC⟩
 ·cases h; exact ⟨Qbe, _, _, Qbc⟩
 ·cases h; exact ⟨Qah, _, _, Qaf⟩
 ·cases h; exact ⟨QnK, _, _, Qnz⟩
 ·cases h; exact ⟨Qb7, _, _, Qb1⟩
 ·cases h; exact ⟨ZP, _, _, ZL⟩
 ·cases h; exact ⟨Qmp, _, _, Ql5⟩
 ·cases h; exact ⟨Qa2, _, _, QaW⟩
 ·cases h; exact ⟨QaH, _, _, QaB⟩
 ·cases h; exact ⟨Ze, _, _, Zc⟩
 ·cases h; exact ⟨QjE, _, _, Qjg⟩
 ·cases h
theorem QqV : Qw Tryz.prog tab := fun f A h => by
 unfold tab at h
 split at h
 ·exact QCG f A h
 split at h
 ·exact QCF f A h
 exact QCE f A h
end Go.Proofs.YtfgccihafnjalaaGreatDoor
