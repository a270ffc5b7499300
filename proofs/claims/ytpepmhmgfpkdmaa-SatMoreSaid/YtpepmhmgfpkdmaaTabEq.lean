/- The translations are so. -/
import Derived.Test.YtpepmhmgfpkdmaaTabB
import Derived.Test.YtpepmhmgfpkdmaaProg
namespace Go.Proofs.Ytpepmhmgfpkdmaa
open Go Go.Am
set_option maxRecDepth 100000
def d_proofmarklaw07_SatMore : Nat → List Nat := fun i => [[], [], [19, 20, 21], [], [22, 23, 24], [], [25, 26, 27, 28, 29, 30, 31, 32, 33, 34, 35, 36, 37, 38, 39, 40, 41, 42, 43, 44, 45, 46], [], [48], [], [], [], [49, 50, 51, 52], [], [54, 55], [], [], [], [], [], [56, 57, 58, 59, 60, 61, 62], [], [64, 65], [], [66, 67, 68, 69, 70, 71, 72, 73], [], [74, 75, 76, 77, 78, 79, 80, 81], [], [83, 84], [], [85, 86, 87, 88], [], [89, 90, 91, 92, 93, 94], [], [95, 96, 97, 98, 99, 100, 101, 102, 103, 104], [3, 0, 3, 0, 3, 3, 0, 1, 2, 3, 2], [105, 106, 107, 108, 109, 110], [], [112, 113, 111, 114, 115, 14], [], [117, 118, 116, 119, 120, 16], [], [122, 123, 121, 124, 125, 18], [], [126, 127, 128, 129, 130, 131, 132, 133, 134, 135, 136, 137, 138, 139, 140, 141, 142, 143, 144, 145, 146, 147, 148], []].getD i []
theorem e_proofmarklaw07_SatMore : compF Try.prog (fun _ => false) d_proofmarklaw07_SatMore 4 = some proofmarklaw07_SatMore := by kernel_rfl
theorem b_proofmarklaw07_SatMore : bodied Try.prog 4 = true := by kernel_rfl
def d_proofmarklaw07_few : Nat → List Nat := fun i => [[], [], [8, 9, 10, 11, 12, 13, 14, 15, 16, 17], [], [], [], [], [], [19, 20, 21, 22], [], [24, 25], [], [26, 27, 28, 29, 30, 31], [], [], [], [], []].getD i []
theorem e_proofmarklaw07_few : compF Try.prog (fun _ => false) d_proofmarklaw07_few 5 = some proofmarklaw07_few := by kernel_rfl
theorem b_proofmarklaw07_few : bodied Try.prog 5 = true := by kernel_rfl
def d_proofmarkref05_Right : Nat → List Nat := fun i => [[], [], [5, 6, 7, 8, 9, 10, 11, 12, 13, 14, 15, 16, 17], [], [], [], [], [], [19, 20, 21, 22], [], [24, 25], [], [], [], [26, 27, 28, 29, 30, 31, 32], [], [34, 35], [], [36, 37, 38, 39, 40, 41, 42, 43, 44, 45, 46], [3, 0, 3, 3, 0, 3, 3, 0, 3, 0, 2, 3], [], [], [], []].getD i []
theorem e_proofmarkref05_Right : compF Try.prog (fun _ => false) d_proofmarkref05_Right 6 = some proofmarkref05_Right := by kernel_rfl
theorem b_proofmarkref05_Right : bodied Try.prog 6 = true := by kernel_rfl
def d_proofmarklaw07_plain : Nat → List Nat := fun i => [[], [], [3, 4, 5, 6, 7], []].getD i []
theorem e_proofmarklaw07_plain : compF Try.prog (fun _ => false) d_proofmarklaw07_plain 7 = some proofmarklaw07_plain := by kernel_rfl
theorem b_proofmarklaw07_plain : bodied Try.prog 7 = true := by kernel_rfl
def d_proofmarklaw07_works : Nat → List Nat := fun i => [[], [], [6, 7, 8, 9, 10, 11, 5, 12, 13], [], [15, 16, 17, 18, 14, 19, 20], [], [21, 22, 23, 24, 25, 26, 27, 28, 29, 30, 31, 32, 33, 34, 35, 36, 37, 38, 39, 40, 41, 42, 43, 44, 45, 46, 47, 48, 49, 50, 51, 52, 53, 54, 55, 56, 57, 58, 59, 60, 61, 62, 63, 64, 65, 66, 67, 68, 69, 70, 71, 72, 73, 74, 75, 76, 77, 78, 79, 80, 81, 82, 83, 84, 85], []].getD i []
theorem e_proofmarklaw07_works : compF Try.prog (fun _ => false) d_proofmarklaw07_works 8 = some proofmarklaw07_works := by kernel_rfl
theorem b_proofmarklaw07_works : bodied Try.prog 8 = true := by kernel_rfl
def d_sat_Solve : Nat → List Nat := fun i => [[], [], [12, 13, 14, 15, 16, 17], [], [19], [], [20, 21, 22], [], [23, 24, 25, 26, 27, 28, 29, 30, 31, 32, 33, 34], [2, 3, 2, 3, 2, 3, 2, 3, 2, 3, 3, 2, 3], [36, 37, 38, 35, 39, 40], [], [41], [], [43, 44], [], [45, 46, 47, 48, 49, 50], [], [], [], [53], [], [54, 55, 56, 57], [], [58, 59], [], [], [], [63], [], [64, 65, 66, 67, 68, 69, 70, 71, 72, 73, 74, 75, 76], [3, 0, 3, 3, 3, 3, 0, 3, 3, 3, 0, 3, 3, 2], [77], [], [79], [], [80, 81, 82, 83, 84], [], [86], [], [87, 88], [], [89], []].getD i []
theorem e_sat_Solve : compF Try.prog (fun d => List.contains [38, 44] d) d_sat_Solve 9 = some sat_Solve := by kernel_rfl
theorem b_sat_Solve : bodied Try.prog 9 = true := by kernel_rfl
def d_proofmarkref05_lit : Nat → List Nat := fun i => [[], [], [5, 6, 7, 8, 9, 10, 11, 12, 13, 14, 15, 16, 17], []].getD i []
theorem e_proofmarkref05_lit : compF Try.prog (fun _ => false) d_proofmarkref05_lit 11 = some proofmarkref05_lit := by kernel_rfl
theorem b_proofmarkref05_lit : bodied Try.prog 11 = true := by kernel_rfl
def d_proofmarklaw07_kind : Nat → List Nat := fun i => [[], [], [8, 9, 10, 7, 11, 12, 6], [], [13, 14], []].getD i []
theorem e_proofmarklaw07_kind : compF Try.prog (fun _ => false) d_proofmarklaw07_kind 12 = some proofmarklaw07_kind := by kernel_rfl
theorem b_proofmarklaw07_kind : bodied Try.prog 12 = true := by kernel_rfl
def d_clause_Right : Nat → List Nat := fun i => [[], [], [7, 8, 9, 10, 11, 12, 13, 14, 15, 16, 17, 18, 19], [], [], [], [21], [], [], [], [26, 27], [], [], [], [], [], [32, 33], [], [34, 35, 36, 37, 38, 39, 40, 41, 42, 43, 44, 45, 46, 47], [], [], [], [49], [], [50], [], [], []].getD i []
theorem e_clause_Right : compF Try.prog (fun _ => false) d_clause_Right 13 = some clause_Right := by kernel_rfl
theorem b_clause_Right : bodied Try.prog 13 = true := by kernel_rfl
def d_sat_solver_begin : Nat → List Nat := fun i => [[], [], [10], [], [], [], [15, 16], [], [18, 19, 17, 20, 21], [], [23, 24], [], [26, 27, 28], [], [29, 30, 31], [], [33, 34, 35, 36, 37, 38, 39, 40, 41, 42, 43], [], [44, 45, 46, 47, 48, 49, 50, 51, 52], [], [], [], [54, 55, 56, 57, 58, 59], [], [60, 61, 62, 63, 64], [], [], [], [66], [], [], []].getD i []
theorem e_sat_solver_begin : compF Try.prog (fun d => List.contains [31, 64] d) d_sat_solver_begin 14 = some sat_solver_begin := by kernel_rfl
theorem b_sat_solver_begin : bodied Try.prog 14 = true := by kernel_rfl
def d_sat_solver_run : Nat → List Nat := fun i => [[], [], [7, 8, 6, 9, 10], [], [12], [], [], [], [14, 15, 16, 17, 18, 19, 20, 21, 22, 23], [], [24, 25, 26, 27, 28, 29, 30, 31, 32], [], [], [], [34, 35], [], [36, 37, 38, 39, 40, 41, 42, 43, 44, 45, 46, 47], [], [], [], [49, 50], [], [51], [], [], [], [53, 54, 55, 56, 57, 58, 59, 60, 61, 62, 63, 64, 65, 66], [3, 3, 3, 3, 0, 3, 3, 3, 0, 3, 1, 2, 3, 3, 2], [67, 68, 69, 70], [], [], []].getD i []
theorem e_sat_solver_run : compF Try.prog (fun d => List.contains [8, 37, 43, 46, 70] d) d_sat_solver_run 15 = some sat_solver_run := by kernel_rfl
theorem b_sat_solver_run : bodied Try.prog 15 = true := by kernel_rfl
def d_clause_Clean : Nat → List Nat := fun i => [[], [], [7, 8], [], [9, 10], [], [11, 12], [], [], [], [], [], [17, 18, 19], [], [20, 21, 22, 23, 24, 25, 26, 27, 28, 29, 30, 31, 32, 33, 34, 35, 36, 37, 38, 39, 40, 41, 42, 43, 44], [], [], [], [46], [], [47], []].getD i []
theorem e_clause_Clean : compF Try.prog (fun _ => false) d_clause_Clean 17 = some clause_Clean := by kernel_rfl
theorem b_clause_Clean : bodied Try.prog 17 = true := by kernel_rfl
def d_sat_solver_add : Nat → List Nat := fun i => [[], [], [8, 9, 10, 11, 12], [], [13, 14, 15, 16, 17, 18, 19, 20, 21, 22], [], [23], [], [], [], [28, 29], [], [30, 31, 32, 33, 34, 35, 36, 37, 38, 39, 40, 41, 42, 43], [3, 3, 3, 0, 3, 3, 3, 3, 0, 3, 0, 3, 1, 1, 2], [44], [], [45], []].getD i []
theorem e_sat_solver_add : compF Try.prog (fun d => List.contains [19] d) d_sat_solver_add 18 = some sat_solver_add := by kernel_rfl
theorem b_sat_solver_add : bodied Try.prog 18 = true := by kernel_rfl
def d_sat_solver_is : Nat → List Nat := fun i => [[], [], [5], [], [7, 8, 9, 10, 11, 12, 13, 14, 15], [], [16, 17, 18, 19, 20, 21, 22], []].getD i []
theorem e_sat_solver_is : compF Try.prog (fun _ => false) d_sat_solver_is 19 = some sat_solver_is := by kernel_rfl
theorem b_sat_solver_is : bodied Try.prog 19 = true := by kernel_rfl
def d_sat_solver_set : Nat → List Nat := fun i => [[], [], [8, 9], [], [], [], [11, 12], [], [13, 14, 15, 16, 17, 18, 19, 20, 21, 22, 23, 24, 25, 26, 27, 28, 29, 30, 31, 32, 33, 34, 35, 36], [3, 3, 3, 0, 3, 3, 3, 3, 0, 3, 3, 3, 3, 0, 3, 3, 3, 3, 0, 3, 3, 3, 2, 3, 2, 3, 2], [37], [], [39, 40, 41, 42, 43, 44], [], [45, 46, 47, 48, 49, 50, 51, 52, 53, 54], [], [], []].getD i []
theorem e_sat_solver_set : compF Try.prog (fun d => List.contains [9] d) d_sat_solver_set 20 = some sat_solver_set := by kernel_rfl
theorem b_sat_solver_set : bodied Try.prog 20 = true := by kernel_rfl
def d_sat_solver_spread : Nat → List Nat := fun i => [[], [], [12, 13, 14, 15, 16, 17, 18, 19, 20], [3, 3, 3, 0, 3, 3, 3, 0, 3, 3], [22, 23, 24, 25, 26, 27, 28, 29, 30, 31, 32], [3, 3, 3, 0, 3, 3, 3, 0, 3, 0, 3, 3], [33, 34, 35, 36, 37, 38, 39], [], [40, 41, 42, 43, 44, 45], [], [46, 47], [], [], [], [], [], [52, 53, 54], [], [56, 57, 58, 59, 55, 60, 61, 62], [], [64], [], [66, 67, 68, 69], [], [70, 71, 72, 73, 74, 75, 76, 77, 78, 79], [3, 3, 3, 0, 3, 3, 3, 3, 3, 1, 2], [80, 81], [], [82, 83, 84, 85], [], [86], [], [87, 88, 89, 90, 91, 92], [], [], []].getD i []
theorem e_sat_solver_spread : compF Try.prog (fun d => List.contains [59] d) d_sat_solver_spread 21 = some sat_solver_spread := by kernel_rfl
theorem b_sat_solver_spread : bodied Try.prog 21 = true := by kernel_rfl
def d_sat_solver_burn : Nat → List Nat := fun i => [[], [], [3, 4, 5, 6, 7, 8, 9, 10], [3, 3, 3, 0, 3, 3, 3, 0, 3], [], [], [12, 13, 14, 15, 16, 17, 18], [], [], []].getD i []
theorem e_sat_solver_burn : compF Try.prog (fun _ => false) d_sat_solver_burn 22 = some sat_solver_burn := by kernel_rfl
theorem b_sat_solver_burn : bodied Try.prog 22 = true := by kernel_rfl
def d_sat_solver_teach : Nat → List Nat := fun i => [[], [], [12, 13, 11, 14, 15, 8], [], [16, 17, 18, 19, 20, 21, 22, 23, 24, 25], [], [26, 27, 28], [], [29, 30], [], [32, 33, 34, 35, 36], [], [], [], [37], [], [], [], [41], [], [42, 43, 44, 45, 46, 47, 48, 49, 50, 51, 52, 53, 54, 55, 56, 57, 58, 59, 60, 61, 62, 63, 64, 65, 66, 67], [3, 3, 3, 3, 3, 3, 0, 3, 3, 3, 0, 1, 3, 0, 3, 3, 3, 0, 3, 3, 3, 0, 1, 3, 0, 3, 3], [69], [], [70], [], [71, 72, 73, 74, 75, 76, 77, 78, 79, 80, 81, 82], [3, 3, 3, 3, 3, 3, 0, 3, 3, 0, 3, 2, 3, 2], [83, 84, 85, 86, 87, 88, 89, 90], [3, 3, 3, 1, 3, 3, 2, 2, 3]].getD i []
theorem e_sat_solver_teach : compF Try.prog (fun d => List.contains [28, 36, 89, 90] d) d_sat_solver_teach 23 = some sat_solver_teach := by kernel_rfl
theorem b_sat_solver_teach : bodied Try.prog 23 = true := by kernel_rfl
def d_sat_solver_learn : Nat → List Nat := fun i => [[], [], [16], [], [17], [], [], [], [18, 19, 20, 21, 22, 23], [], [24, 25, 26, 27, 28, 29, 30], [], [], [], [], [], [35, 36], [], [37, 38], [], [39, 40, 41, 42, 43, 44, 45, 46, 47, 48, 49, 50, 51], [], [53, 54], [], [55, 56, 57, 58, 59, 60, 61, 62, 63], [], [64, 65, 66, 67, 68, 69, 70, 71, 72, 73, 74, 75], [3, 3, 3, 0, 3, 3, 0, 3, 3, 3, 0, 3, 3], [77, 78], [], [79, 80, 81, 82], [], [83, 84, 85, 86, 87, 88, 89, 90, 91], [], [92], [], [93, 94, 95, 96, 97, 98, 99, 100, 101, 102], [], [104, 105], [], [106, 107, 108, 109, 110, 111, 112], [], [113, 114], [], [115, 116], [], [117], [], [119, 120, 121, 122], [], [123, 124], [], [125, 126, 127, 128, 129, 130, 131, 132, 133, 134, 135, 136, 137, 138, 139, 140, 141], [3, 3, 3, 0, 3, 3, 3, 0, 0, 1, 3, 0, 3, 0, 2, 3, 2, 3]].getD i []
theorem e_sat_solver_learn : compF Try.prog (fun d => List.contains [17, 141] d) d_sat_solver_learn 24 = some sat_solver_learn := by kernel_rfl
theorem b_sat_solver_learn : bodied Try.prog 24 = true := by kernel_rfl
def d_sat_solver_pick : Nat → List Nat := fun i => [[], [], [], [], [], [], [5, 6, 7, 8, 9, 10], [], [12, 13], [], [14, 15, 16, 17, 18, 19, 20, 21, 22, 23, 24, 25, 26, 27, 28, 29, 30, 31, 32, 33, 34, 35, 36, 37, 38, 39, 40, 41], [3, 3, 3, 0, 3, 3, 0, 3, 3, 3, 3, 3, 3, 3, 3, 0, 3, 3, 0, 3, 3, 3, 0, 3, 3, 0, 3, 3, 3], [43], [], [44], []].getD i []
theorem e_sat_solver_pick : compF Try.prog (fun _ => false) d_sat_solver_pick 25 = some sat_solver_pick := by kernel_rfl
theorem b_sat_solver_pick : bodied Try.prog 25 = true := by kernel_rfl
def d_slices_Clone_int_int : Nat → List Nat := fun i => [[], [], [3], [], [], [], [5, 6, 7], []].getD i []
theorem e_slices_Clone_int_int : compF Try.prog (fun _ => false) d_slices_Clone_int_int 26 = some slices_Clone_int_int := by kernel_rfl
theorem b_slices_Clone_int_int : bodied Try.prog 26 = true := by kernel_rfl
def d_slices_SortFunc_int_int : Nat → List Nat := fun i => [[5, 6], [], [7, 8, 9, 10, 11, 12, 13], []].getD i []
theorem e_slices_SortFunc_int_int : compF Try.prog (fun _ => false) d_slices_SortFunc_int_int 27 = some slices_SortFunc_int_int := by kernel_rfl
theorem b_slices_SortFunc_int_int : bodied Try.prog 27 = true := by kernel_rfl
def d_slices_Compact_int_int : Nat → List Nat := fun i => [[], [], [6, 7], [], [9], [], [], [], [10, 11, 12], [], [14, 15], [], [16, 17, 18, 19, 20, 21, 22, 23, 24], [3, 3, 3, 0, 3, 3, 3, 3, 0, 3], [26, 27, 28], [], [], [], [29, 30, 31], [], [33, 34], [], [35, 36, 37, 38, 39, 40, 41, 42, 43], [3, 3, 3, 0, 3, 3, 3, 3, 0, 3], [45, 46, 47, 48, 49, 50, 51], [], [52, 53], [], [54, 55, 56], [], [57, 58, 59], [], [60], []].getD i []
theorem e_slices_Compact_int_int : compF Try.prog (fun _ => false) d_slices_Compact_int_int 32 = some slices_Compact_int_int := by kernel_rfl
theorem b_slices_Compact_int_int : bodied Try.prog 32 = true := by kernel_rfl
def d_sat_abs : Nat → List Nat := fun i => [[], [], [3, 4, 5, 6], []].getD i []
theorem e_sat_abs : compF Try.prog (fun _ => false) d_sat_abs 33 = some sat_abs := by kernel_rfl
theorem b_sat_abs : bodied Try.prog 33 = true := by kernel_rfl
def d_sat_solver_visit : Nat → List Nat := fun i => [[], [], [11, 12, 13, 14, 15, 16, 17], [], [18, 19, 20, 21], [], [23, 24, 25, 26, 27, 28, 29, 30, 31, 32], [3, 3, 3, 3, 0, 3, 3, 0, 3, 2, 3, 2], [33, 34, 35, 36, 37], [], [], [], [], [], [39, 40, 41], [], [43, 44], [], [45, 46, 47, 48, 49, 50], [], [52, 53, 54, 55, 56, 57, 58, 59, 60, 61, 62, 63], [3, 3, 3, 3, 3, 3, 0, 3, 3, 0, 3, 2, 3, 2], [64, 65, 66, 67, 68, 69, 70, 71, 72, 73, 74, 75, 76, 77, 78, 79, 80, 81], [3, 3, 3, 0, 3, 3, 0, 3, 3, 3, 0, 3, 3, 0, 0, 3, 1, 1, 2], [], [], [82, 83, 84, 85, 86], [], [], [], [88, 89, 90, 91, 92, 93, 94], []].getD i []
theorem e_sat_solver_visit : compF Try.prog (fun d => List.contains [93] d) d_sat_solver_visit 34 = some sat_solver_visit := by kernel_rfl
theorem b_sat_solver_visit : bodied Try.prog 34 = true := by kernel_rfl
def d_sat_solver_back : Nat → List Nat := fun i => [[6, 7, 8, 9, 10, 11], [], [13, 14, 15, 16, 17, 18, 19, 20, 21, 22, 23], [3, 3, 3, 0, 3, 3, 3, 0, 3, 3, 0, 3, 3, 3], [], [], [28, 29], [], [30, 31, 32, 33, 34, 35, 36], [3, 3, 3, 0, 3, 1, 3, 2], [37], [], [38, 39, 40, 41, 42, 43, 44, 45, 46, 47, 48, 49, 50, 51, 52], [3, 3, 3, 3, 0, 3, 3, 3, 0, 3, 3, 0, 3, 3, 3, 2], [53, 54, 55, 56, 57, 58, 59, 60, 61], [], [62, 63, 64, 65, 66, 67, 68, 69], []].getD i []
theorem e_sat_solver_back : compF Try.prog (fun _ => false) d_sat_solver_back 35 = some sat_solver_back := by kernel_rfl
theorem b_sat_solver_back : bodied Try.prog 35 = true := by kernel_rfl
def d_slices_DeleteFunc_int_int : Nat → List Nat := fun i => [[], [], [8, 9, 10], [], [11], [], [13], [], [14, 15], [], [16, 17, 18], [], [20, 21], [], [22, 23, 24, 25], [], [26, 27, 28], [], [30, 31, 32, 33], [], [34, 35], [], [36, 37, 38], [], [39, 40, 41], []].getD i []
theorem e_slices_DeleteFunc_int_int : compF Try.prog (fun _ => false) d_slices_DeleteFunc_int_int 36 = some slices_DeleteFunc_int_int := by kernel_rfl
theorem b_slices_DeleteFunc_int_int : bodied Try.prog 36 = true := by kernel_rfl
def d_sat_solver_learn_S1 : Nat → List Nat := fun i => [[], [], [4, 5, 6], []].getD i []
theorem e_sat_solver_learn_S1 : compF Try.prog (fun _ => false) d_sat_solver_learn_S1 37 = some sat_solver_learn_S1 := by kernel_rfl
theorem b_sat_solver_learn_S1 : bodied Try.prog 37 = true := by kernel_rfl
def d_slices_IndexFunc_int_int : Nat → List Nat := fun i => [[], [], [6], [], [], [], [10], [], [11, 12, 13, 14, 15], [], [17], [], [18], [], [], []].getD i []
theorem e_slices_IndexFunc_int_int : compF Try.prog (fun _ => false) d_slices_IndexFunc_int_int 41 = some slices_IndexFunc_int_int := by kernel_rfl
theorem b_slices_IndexFunc_int_int : bodied Try.prog 41 = true := by kernel_rfl
theorem tab_ok : TabOk Try.prog tab := fun f A h => by
  unfold tab at h
  split at h
  · cases h; exact ⟨b_proofmarklaw07_SatMore, _, _, e_proofmarklaw07_SatMore⟩
  · cases h; exact ⟨b_proofmarklaw07_few, _, _, e_proofmarklaw07_few⟩
  · cases h; exact ⟨b_proofmarkref05_Right, _, _, e_proofmarkref05_Right⟩
  · cases h; exact ⟨b_proofmarklaw07_plain, _, _, e_proofmarklaw07_plain⟩
  · cases h; exact ⟨b_proofmarklaw07_works, _, _, e_proofmarklaw07_works⟩
  · cases h; exact ⟨b_sat_Solve, _, _, e_sat_Solve⟩
  · cases h; exact ⟨b_proofmarkref05_lit, _, _, e_proofmarkref05_lit⟩
  · cases h; exact ⟨b_proofmarklaw07_kind, _, _, e_proofmarklaw07_kind⟩
  · cases h; exact ⟨b_clause_Right, _, _, e_clause_Right⟩
  · cases h; exact ⟨b_sat_solver_begin, _, _, e_sat_solver_begin⟩
  · cases h; exact ⟨b_sat_solver_run, _, _, e_sat_solver_run⟩
  · cases h; exact ⟨b_clause_Clean, _, _, e_clause_Clean⟩
  · cases h; exact ⟨b_sat_solver_add, _, _, e_sat_solver_add⟩
  · cases h; exact ⟨b_sat_solver_is, _, _, e_sat_solver_is⟩
  · cases h; exact ⟨b_sat_solver_set, _, _, e_sat_solver_set⟩
  · cases h; exact ⟨b_sat_solver_spread, _, _, e_sat_solver_spread⟩
  · cases h; exact ⟨b_sat_solver_burn, _, _, e_sat_solver_burn⟩
  · cases h; exact ⟨b_sat_solver_teach, _, _, e_sat_solver_teach⟩
  · cases h; exact ⟨b_sat_solver_learn, _, _, e_sat_solver_learn⟩
  · cases h; exact ⟨b_sat_solver_pick, _, _, e_sat_solver_pick⟩
  · cases h; exact ⟨b_slices_Clone_int_int, _, _, e_slices_Clone_int_int⟩
  · cases h; exact ⟨b_slices_SortFunc_int_int, _, _, e_slices_SortFunc_int_int⟩
  · cases h; exact ⟨b_slices_Compact_int_int, _, _, e_slices_Compact_int_int⟩
  · cases h; exact ⟨b_sat_abs, _, _, e_sat_abs⟩
  · cases h; exact ⟨b_sat_solver_visit, _, _, e_sat_solver_visit⟩
  · cases h; exact ⟨b_sat_solver_back, _, _, e_sat_solver_back⟩
  · cases h; exact ⟨b_slices_DeleteFunc_int_int, _, _, e_slices_DeleteFunc_int_int⟩
  · cases h; exact ⟨b_sat_solver_learn_S1, _, _, e_sat_solver_learn_S1⟩
  · cases h; exact ⟨b_slices_IndexFunc_int_int, _, _, e_slices_IndexFunc_int_int⟩
  · cases h
end Go.Proofs.Ytpepmhmgfpkdmaa
