/- The translations are so. -/
import Derived.Test.YtfligilbnpcnaaaGreatDoorTabB
import Derived.Test.YtfligilbnpcnaaaGreatDoorProg
namespace Go.Proofs.YtfligilbnpcnaaaGreatDoor
open Go Go.Am
set_option maxRecDepth 100000
def d_proofmarklaw03_ValueOf : Nat → List Nat := fun i => [[], [], [29, 30, 31, 32, 33, 34, 35], [], [37], [], [39, 40, 38, 41, 42, 14], [], [43, 44], [], [45, 46], [], [47, 48, 49, 50, 51, 52, 53, 54, 55, 56, 57, 58, 59, 60, 61, 62, 63, 64, 65], [0, 3, 1, 0, 3, 2, 3, 3, 0, 3, 3, 3, 1, 0, 3, 3, 3, 2, 3, 3], [], [], [67, 68, 69], [], [], [], [], [], [70, 71, 72], [], [74, 75], [], [77, 78, 79, 80, 76, 81, 82], [], [83, 84, 85, 86, 87, 88, 89, 90, 91], [], [], [], [93, 94, 95, 96, 97, 98, 99, 100], [], [102, 103, 104, 105, 101, 106, 107], [], [108, 109, 110, 111, 112, 113, 114, 115], [], [], [], [], [], [117, 118, 119], [], [121, 122], [], [123, 124, 125, 126, 127, 128, 129, 130, 131, 132, 133, 134], [3, 3, 3, 0, 3, 3, 3, 3, 3, 3, 3, 0, 3], [], [], [137, 138, 139, 140, 141, 136, 142, 143, 25], [], [145, 146, 147, 148, 149, 150, 144, 151, 152], [3, 0, 3, 1, 1, 2, 3, 3, 3, 3, 3], [153, 154, 155, 156, 157, 158, 159, 160, 161, 162, 163, 164, 165, 166], []].getD i []
theorem e_proofmarklaw03_ValueOf : compF Tryz.prog (fun _ => false) d_proofmarklaw03_ValueOf 3 = some proofmarklaw03_ValueOf := by kernel_rfl
theorem b_proofmarklaw03_ValueOf : bodied Tryz.prog 3 = true := by kernel_rfl
def d_proofmarklaw03_ValueKnown : Nat → List Nat := fun i => [[], [], [13, 14], [], [], [], [15], [], [17, 18], [], [19, 20, 21, 22, 23, 24], [], [26, 27, 25, 28, 29, 4], [], [31, 32, 33, 34, 30, 35, 36], [], [37, 38, 39, 40, 41], [], [], [], [43, 44, 45, 46, 47, 48, 49, 50], [], [], [], [51], [], [53, 54], [], [], [], [55], [], [57, 58], [], [59, 60, 61, 62, 63, 64, 65, 66, 67, 68, 69, 70, 71, 72, 73, 74, 75], [], [], [], [], [], [78, 79, 80, 77, 81, 82, 11], [], [83, 84, 85, 86, 87, 88, 89, 90, 91, 92, 93, 94, 95, 96, 97, 98, 99, 100], [3, 3, 3, 3, 3, 2, 2, 3, 3, 3, 3, 0, 1, 2, 3, 3, 2, 3, 3]].getD i []
theorem e_proofmarklaw03_ValueKnown : compF Tryz.prog (fun _ => false) d_proofmarklaw03_ValueKnown 4 = some proofmarklaw03_ValueKnown := by kernel_rfl
theorem b_proofmarklaw03_ValueKnown : bodied Tryz.prog 4 = true := by kernel_rfl
def d_proofmarklaw03_few : Nat → List Nat := fun i => [[], [], [3, 4, 5, 6, 7, 8, 9, 10, 11, 12], []].getD i []
theorem e_proofmarklaw03_few : compF Tryz.prog (fun _ => false) d_proofmarklaw03_few 5 = some proofmarklaw03_few := by kernel_rfl
theorem b_proofmarklaw03_few : bodied Tryz.prog 5 = true := by kernel_rfl
def d_proofmarklaw03_works : Nat → List Nat := fun i => [[], [], [16, 17, 18, 19, 20, 21, 15, 22, 23, 2], [], [24, 25], [], [26, 27, 28, 29], [], [31, 32, 33, 30, 34, 35], [], [37, 38, 39, 36, 40, 41], [], [43, 44, 45, 42, 46, 47, 9], [], [49, 50, 51, 48, 52, 53], [], [55, 56, 57, 54, 58, 59], [], [60, 61, 62, 63, 64, 65, 66, 67, 68, 69, 70, 71, 72, 73, 74, 75, 76, 77, 78, 79, 80, 81, 82, 83, 84, 85, 86, 87, 88, 89, 90, 91, 92, 93, 94, 95, 96, 97, 98, 99, 100, 101, 102, 103, 104], []].getD i []
theorem e_proofmarklaw03_works : compF Tryz.prog (fun _ => false) d_proofmarklaw03_works 6 = some proofmarklaw03_works := by kernel_rfl
theorem b_proofmarklaw03_works : bodied Tryz.prog 6 = true := by kernel_rfl
def d_proofmarkkit_Made : Nat → List Nat := fun i => [[], [], [7], [], [], [], [], [], [8, 9, 10], [], [12, 13], [], [14, 15, 16, 17, 18, 19, 20, 21, 22], [], [23, 24], []].getD i []
theorem e_proofmarkkit_Made : compF Tryz.prog (fun _ => false) d_proofmarkkit_Made 7 = some proofmarkkit_Made := by kernel_rfl
theorem b_proofmarkkit_Made : bodied Tryz.prog 7 = true := by kernel_rfl
def d_proofmarkkit_Plain : Nat → List Nat := fun i => [[], [], [7, 8], [], [], [], [9, 10, 11], [], [13, 14], [], [16, 17, 18, 15, 19, 20, 6], [], [21, 22, 23, 24, 25, 26, 27, 28, 29, 30, 31], [3, 3, 3, 3, 0, 0, 1, 1, 2, 3, 3, 2], [32], []].getD i []
theorem e_proofmarkkit_Plain : compF Tryz.prog (fun _ => false) d_proofmarkkit_Plain 8 = some proofmarkkit_Plain := by kernel_rfl
theorem b_proofmarkkit_Plain : bodied Tryz.prog 8 = true := by kernel_rfl
def d_proofmarkkit_PlainEnv : Nat → List Nat := fun i => [[], [], [6], [], [7, 8, 9, 10, 11, 12], [], [], [], [13, 14, 15, 16], [], [18, 19], [], [20, 21, 22, 23, 24], [], [25, 26, 27, 28, 29, 30, 31, 32, 33, 34, 35, 36, 37, 38], [], [39], []].getD i []
theorem e_proofmarkkit_PlainEnv : compF Tryz.prog (fun _ => false) d_proofmarkkit_PlainEnv 9 = some proofmarkkit_PlainEnv := by kernel_rfl
theorem b_proofmarkkit_PlainEnv : bodied Tryz.prog 9 = true := by kernel_rfl
def d_value_Env_Sym : Nat → List Nat := fun i => [[], [], [5, 6, 7, 8, 9, 10, 11, 12], [], [], [], [14, 15, 16, 17, 18], []].getD i []
theorem e_value_Env_Sym : compF Tryz.prog (fun _ => false) d_value_Env_Sym 10 = some value_Env_Sym := by kernel_rfl
theorem b_value_Env_Sym : bodied Tryz.prog 10 = true := by kernel_rfl
def d_proofmarkref03_Env_Sym : Nat → List Nat := fun i => [[], [], [], [], [6, 7, 8, 9], [], [11, 12], [], [13, 14], [], [16, 17, 18, 19, 20], [], [], []].getD i []
theorem e_proofmarkref03_Env_Sym : compF Tryz.prog (fun _ => false) d_proofmarkref03_Env_Sym 11 = some proofmarkref03_Env_Sym := by kernel_rfl
theorem b_proofmarkref03_Env_Sym : bodied Tryz.prog 11 = true := by kernel_rfl
def d_value_Env_Cell : Nat → List Nat := fun i => [[], [], [10, 11, 12, 13], [], [14], [], [], [], [16, 17, 18, 19, 20, 21], []].getD i []
theorem e_value_Env_Cell : compF Tryz.prog (fun _ => false) d_value_Env_Cell 12 = some value_Env_Cell := by kernel_rfl
theorem b_value_Env_Cell : bodied Tryz.prog 12 = true := by kernel_rfl
def d_proofmarkref03_Env_Cell : Nat → List Nat := fun i => [[], [], [], [], [11, 12, 13, 14], [], [16, 17], [], [18, 19, 20, 21, 22], [], [23, 24, 25, 26, 27, 28, 29, 30, 31, 32, 33, 34, 35, 36, 37], [], [39, 40], [], [], []].getD i []
theorem e_proofmarkref03_Env_Cell : compF Tryz.prog (fun _ => false) d_proofmarkref03_Env_Cell 13 = some proofmarkref03_Env_Cell := by kernel_rfl
theorem b_proofmarkref03_Env_Cell : bodied Tryz.prog 13 = true := by kernel_rfl
def d_proofmarkref03_All : Nat → List Nat := fun i => [[], [], [], [], [], [], [9, 10, 11, 12, 13, 14], [], [16, 17], [], [18, 19, 20, 21, 22, 23, 24], [], [], [], [25], [], [28], [], [29, 30], [], [32], [], [33, 34, 35, 36], [], [38], [], [39, 40, 41, 42, 43, 44, 45, 46, 47, 48, 49], [0, 3, 0, 3, 0, 3, 3, 0, 3, 0, 2, 3], [51], [], [52, 53, 54, 55, 56, 57, 58, 59, 60, 61, 62, 63, 64], [3, 0, 3, 3, 0, 3, 0, 3, 3, 0, 3, 0, 2, 3], [65, 66, 67, 68], [], [69], []].getD i []
theorem e_proofmarkref03_All : compF Tryz.prog (fun _ => false) d_proofmarkref03_All 14 = some proofmarkref03_All := by kernel_rfl
theorem b_proofmarkref03_All : bodied Tryz.prog 14 = true := by kernel_rfl
def d_value_Of : Nat → List Nat := fun i => [[], [], [11, 12, 13, 14, 15, 10, 16, 17], [], [18], [], [], [], [20, 21, 22], []].getD i []
theorem e_value_Of : compF Tryz.prog (fun _ => false) d_value_Of 15 = some value_Of := by kernel_rfl
theorem b_value_Of : bodied Tryz.prog 15 = true := by kernel_rfl
def d_value_All : Nat → List Nat := fun i => [[], [], [19], [], [20], [], [21, 22], [], [], [], [27, 28], [], [30, 31, 32, 29, 33, 34, 13], [], [35, 36, 37, 38, 39], [0, 3, 3, 0, 1, 2], [40], [], [41, 42, 43], [], [], [], [], [], [48, 49, 50], [], [52, 53, 54, 51, 55, 56], [], [57], [], [], [], [59, 60, 61, 62], [], [63], [], [64], []].getD i []
theorem e_value_All : compF Tryz.prog (fun _ => false) d_value_All 16 = some value_All := by kernel_rfl
theorem b_value_All : bodied Tryz.prog 16 = true := by kernel_rfl
def d_proofmarklaw03_ValueNeeds : Nat → List Nat := fun i => [[], [], [15, 16, 17, 18, 19, 20, 21], [], [23], [], [25, 26, 24, 27, 28, 6], [], [], [], [], [], [29, 30, 31], [], [33, 34], [], [35, 36, 37, 38, 39, 40, 41], [], [43, 44, 45, 42, 46, 47], [], [49, 50, 51, 52, 48, 53, 54], [], [55, 56, 57, 58, 59, 60, 61, 62, 63, 64, 65], [], [], [], [], [], [67, 68, 69], [], [71, 72], [], [73, 74, 75, 76, 77, 78, 79, 80], [3, 3, 3, 0, 3, 3, 3, 0, 3], [], [], [], [], [82, 83, 84], [], [86, 87], [], [88, 89, 90, 91, 92, 93, 94, 95], [3, 3, 3, 0, 3, 3, 3, 0, 3], [], [], [97], []].getD i []
theorem e_proofmarklaw03_ValueNeeds : compF Tryz.prog (fun _ => false) d_proofmarklaw03_ValueNeeds 17 = some proofmarklaw03_ValueNeeds := by kernel_rfl
theorem b_proofmarklaw03_ValueNeeds : bodied Tryz.prog 17 = true := by kernel_rfl
def d_proofmarklaw03_ValueNeeded : Nat → List Nat := fun i => [[], [], [26, 27, 28, 29, 30, 31, 32, 33, 34, 35, 36, 37], [], [39], [], [41, 42, 40, 43, 44, 8], [], [], [], [45, 46, 47], [], [49, 50], [], [51], [], [53, 54, 55, 56, 52, 57, 58], [], [59, 60, 61], [], [], [], [62], [], [64, 65], [], [66, 67, 68], [], [69, 70, 71, 72, 73, 74, 75, 76, 77], [], [79, 80, 81, 82], [], [83, 84, 85, 86, 87, 88], [], [89, 90], [], [92, 93, 94, 95], [], [97, 98, 99, 100, 96, 101, 102], [], [104, 105, 106, 107, 103, 108, 109], [], [110, 111, 112, 113, 114, 115, 116, 117, 118, 119], [], [], [], [122, 123, 124, 121, 125, 126, 21], [], [127, 128], [], [131, 132, 133, 134, 135, 130, 136, 137, 23], [], [139, 140, 141, 142, 143, 138, 144, 145, 25], [], [146, 147, 148, 149, 150, 151], [], [], [], [153], []].getD i []
theorem e_proofmarklaw03_ValueNeeded : compF Tryz.prog (fun _ => false) d_proofmarklaw03_ValueNeeded 18 = some proofmarklaw03_ValueNeeded := by kernel_rfl
theorem b_proofmarklaw03_ValueNeeded : bodied Tryz.prog 18 = true := by kernel_rfl
def d_value_Needs : Nat → List Nat := fun i => [[], [], [10, 11], [], [], [], [16, 17], [], [19, 20, 21, 18, 22, 23, 9], [], [24], [], [27], [], [28, 29, 30, 31, 32], [], [34], [], [35, 36, 37, 38], [], [39], [], [40, 41], [], [42, 43], []].getD i []
theorem e_value_Needs : compF Tryz.prog (fun _ => false) d_value_Needs 19 = some value_Needs := by kernel_rfl
theorem b_value_Needs : bodied Tryz.prog 19 = true := by kernel_rfl
def d_term_New : Nat → List Nat := fun i => [[], [], [1, 2, 3], []].getD i []
theorem e_term_New : compF Tryz.prog (fun _ => false) d_term_New 20 = some term_New := by kernel_rfl
theorem b_term_New : bodied Tryz.prog 20 = true := by kernel_rfl
def d_term_Graph_Add : Nat → List Nat := fun i => [[], [], [12, 13, 14, 15, 16, 17, 18], [], [], [], [21, 22, 23, 24, 25, 26, 20, 27, 28], [3, 3, 3, 0, 0, 0, 3, 3, 3, 3, 3], [], [], [30], [], [31, 32, 33, 34, 35], [], [36, 37, 38], [], [39], [], [], [], [44, 45], [], [46, 47, 48, 49, 50, 51, 52, 53, 54, 55, 56, 57, 58, 59, 60, 61, 62, 63], [3, 3, 3, 3, 0, 3, 3, 0, 3, 3, 3, 3, 3, 0, 3, 3, 0, 3, 3, 3], [64], [], [65, 66, 67, 68, 69, 70, 71, 72, 73, 74, 75, 76, 77, 78, 79, 80, 81, 82], [3, 3, 3, 3, 0, 1, 3, 3, 3, 0, 0, 1, 1, 3, 3, 3, 2, 2, 3, 2], [83, 84, 85, 86, 87, 88, 89, 90, 91, 92, 93, 94, 95, 96, 97, 98, 99, 100, 101, 102, 103, 104], [3, 3, 3, 3, 3, 0, 3, 3, 1, 1, 3, 3, 3, 0, 3, 3, 1, 2, 3, 3, 2, 3, 3, 2], [105], []].getD i []
theorem e_term_Graph_Add : compF Tryz.prog (fun _ => false) d_term_Graph_Add 21 = some term_Graph_Add := by kernel_rfl
theorem b_term_Graph_Add : bodied Tryz.prog 21 = true := by kernel_rfl
def d_term_Graph_Size : Nat → List Nat := fun i => [[], [], [3], [], [], [], [5, 6, 7, 8, 9], []].getD i []
theorem e_term_Graph_Size : compF Tryz.prog (fun _ => false) d_term_Graph_Size 22 = some term_Graph_Size := by kernel_rfl
theorem b_term_Graph_Size : bodied Tryz.prog 22 = true := by kernel_rfl
def d_term_Graph_Node : Nat → List Nat := fun i => [[], [], [6, 7, 8], [], [10], [], [11, 12, 13, 14, 15, 16, 17], []].getD i []
theorem e_term_Graph_Node : compF Tryz.prog (fun _ => false) d_term_Graph_Node 23 = some term_Graph_Node := by kernel_rfl
theorem b_term_Graph_Node : bodied Tryz.prog 23 = true := by kernel_rfl
def d_proofmarkkit_PlainNode : Nat → List Nat := fun i => [[], [], [3, 4, 5, 6, 7, 8, 9, 10, 11, 12, 13, 14, 15], []].getD i []
theorem e_proofmarkkit_PlainNode : compF Tryz.prog (fun _ => false) d_proofmarkkit_PlainNode 24 = some proofmarkkit_PlainNode := by kernel_rfl
theorem b_proofmarkkit_PlainNode : bodied Tryz.prog 24 = true := by kernel_rfl
def d_slices_IndexFunc_value_Cell_value_Cell : Nat → List Nat := fun i => [[], [], [6], [], [], [], [10], [], [11, 12, 13, 14, 15], [], [17], [], [18], [], [], []].getD i []
theorem e_slices_IndexFunc_value_Cell_value_Cell : compF Tryz.prog (fun _ => false) d_slices_IndexFunc_value_Cell_value_Cell 25 = some slices_IndexFunc_value_Cell_value_Cell := by kernel_rfl
theorem b_slices_IndexFunc_value_Cell_value_Cell : bodied Tryz.prog 25 = true := by kernel_rfl
def d_value_Env_Cell_S1 : Nat → List Nat := fun i => [[], [], [6, 7, 8, 9, 10, 11, 12, 13, 14, 15, 16, 17, 18, 19, 20, 21], []].getD i []
theorem e_value_Env_Cell_S1 : compF Tryz.prog (fun _ => false) d_value_Env_Cell_S1 26 = some value_Env_Cell_S1 := by kernel_rfl
theorem b_value_Env_Cell_S1 : bodied Tryz.prog 26 = true := by kernel_rfl
def d_proofmarkref01_Do : Nat → List Nat := fun i => [[], [], [8, 9, 10, 11], [], [], [], [14], [], [15, 16, 17], [], [19], [], [20, 21, 22, 23], [], [25], [], [26, 27, 28], [], [30], [], [31], [], [32], [], [33], [], [34, 35, 36, 37], [], [39], [], [40, 41, 42], [], [44], [], [45, 46, 47], [], [49], [], [50, 51, 52], [], [54], [], [55, 56, 57], [], [59], [], [60, 61, 62], [], [64], [], [65, 66, 67, 68, 69], [], [71], [], [72, 73, 74, 75, 76, 77], [], [79], [], [80, 81, 82, 83], [], [85], [], [86, 87, 88, 89], [], [], []].getD i []
theorem e_proofmarkref01_Do : compF Tryz.prog (fun _ => false) d_proofmarkref01_Do 27 = some proofmarkref01_Do := by kernel_rfl
theorem b_proofmarkref01_Do : bodied Tryz.prog 27 = true := by kernel_rfl
def d_value_All_S1 : Nat → List Nat := fun i => [[], [], [5], [], [8], [], [9, 10], [], [12], [], [13, 14, 15, 16], [], [18], [], [19, 20, 21, 22, 23, 24, 25, 26, 27, 28], [], [29, 30, 31, 32, 33, 34, 35, 36, 37, 38, 39], []].getD i []
theorem e_value_All_S1 : compF Tryz.prog (fun _ => false) d_value_All_S1 28 = some value_All_S1 := by kernel_rfl
theorem b_value_All_S1 : bodied Tryz.prog 28 = true := by kernel_rfl
def d_word_Do : Nat → List Nat := fun i => [[], [], [8, 9], [], [10, 11], [], [], [], [13, 14, 15, 16, 17], []].getD i []
theorem e_word_Do : compF Tryz.prog (fun _ => false) d_word_Do 29 = some word_Do := by kernel_rfl
theorem b_word_Do : bodied Tryz.prog 29 = true := by kernel_rfl
def d_term_Graph_Uses : Nat → List Nat := fun i => [[], [], [10], [], [], [], [], [], [11], [], [], [], [], [], [16, 17], [], [18, 19, 20], [], [21], [], [22, 23], [], [24], []].getD i []
theorem e_term_Graph_Uses : compF Tryz.prog (fun _ => false) d_term_Graph_Uses 30 = some term_Graph_Uses := by kernel_rfl
theorem b_term_Graph_Uses : bodied Tryz.prog 30 = true := by kernel_rfl
def d_proofmarkref03_Needs : Nat → List Nat := fun i => [[], [], [], [], [], [], [12, 13, 14], [], [], [], [15, 16, 17], [], [19, 20], [], [21, 22, 23, 24, 25, 26, 27, 28, 29, 30], [3, 3, 3, 0, 3, 3, 3, 0, 3, 0, 1, 2], [31, 32], [], [34, 35, 36, 37, 38, 39, 40], [], [41, 42], [], [44, 45], [], [46, 47, 48, 49, 50], [], [51, 52, 53, 54, 55, 56, 57, 58, 59, 60, 61, 62, 63], [3, 3, 3, 3, 3, 3, 0, 3, 3, 3, 3, 0, 3, 3], [65, 66, 67, 68, 69, 70, 71, 72, 73, 74, 75, 76, 77, 78, 79, 80], [3, 3, 3, 3, 3, 3, 3, 3, 3, 0, 3, 3, 3, 0, 3, 2, 3, 2], [81, 82], [], [83, 84], []].getD i []
theorem e_proofmarkref03_Needs : compF Tryz.prog (fun _ => false) d_proofmarkref03_Needs 31 = some proofmarkref03_Needs := by kernel_rfl
theorem b_proofmarkref03_Needs : bodied Tryz.prog 31 = true := by kernel_rfl
def d_proofmarklaw03_has : Nat → List Nat := fun i => [[], [], [], [], [6, 7, 8], [], [10, 11], [], [12, 13, 14, 15, 16], [], [], [], [], []].getD i []
theorem e_proofmarklaw03_has : compF Tryz.prog (fun _ => false) d_proofmarklaw03_has 32 = some proofmarklaw03_has := by kernel_rfl
theorem b_proofmarklaw03_has : bodied Tryz.prog 32 = true := by kernel_rfl
def d_slices_Sort_int64_int64 : Nat → List Nat := fun i => [[3, 4], [], [5, 6, 7, 8, 9, 10], []].getD i []
theorem e_slices_Sort_int64_int64 : compF Tryz.prog (fun _ => false) d_slices_Sort_int64_int64 33 = some slices_Sort_int64_int64 := by kernel_rfl
theorem b_slices_Sort_int64_int64 : bodied Tryz.prog 33 = true := by kernel_rfl
def d_term_Graph_may : Nat → List Nat := fun i => [[], [], [5, 6, 7], [], [], [], [9], [], [12], [], [], [], [14], [], [15, 16, 17], [], [19], [], [20, 21, 22, 23, 24, 25, 26, 27, 28, 29, 30, 31, 32, 33], [], [35], [], [36, 37, 38, 39, 40, 41, 42, 43, 44, 45, 46, 47, 48, 49, 50, 51, 52, 53, 54, 55], [], [], []].getD i []
theorem e_term_Graph_may : compF Tryz.prog (fun _ => false) d_term_Graph_may 34 = some term_Graph_may := by kernel_rfl
theorem b_term_Graph_may : bodied Tryz.prog 34 = true := by kernel_rfl
def d_term_words : Nat → List Nat := fun i => [[], [], [8, 9, 10], [], [11], [], [14], [], [15], [], [17], [], [18, 19], [], [21], [], [22, 23, 24, 25, 26, 27, 28, 29, 30, 31, 32], [], [33, 34, 35, 36, 37, 38, 39, 40, 41, 42, 43], []].getD i []
theorem e_term_words : compF Tryz.prog (fun _ => false) d_term_words 35 = some term_words := by kernel_rfl
theorem b_term_words : bodied Tryz.prog 35 = true := by kernel_rfl
def d_term_parts : Nat → List Nat := fun i => [[], [], [3], [], [6], [], [7, 8, 9], [], [11], [], [12, 13, 14, 15, 16], [], [], []].getD i []
theorem e_term_parts : compF Tryz.prog (fun _ => false) d_term_parts 36 = some term_parts := by kernel_rfl
theorem b_term_parts : bodied Tryz.prog 36 = true := by kernel_rfl
def d_term_Graph_is : Nat → List Nat := fun i => [[], [], [5, 6, 7, 8, 9, 10, 11, 12, 13, 14, 15, 16, 17, 18, 19], []].getD i []
theorem e_term_Graph_is : compF Tryz.prog (fun _ => false) d_term_Graph_is 37 = some term_Graph_is := by kernel_rfl
theorem b_term_Graph_is : bodied Tryz.prog 37 = true := by kernel_rfl
def d_proofmarkref01_add : Nat → List Nat := fun i => [[], [], [], [], [], [], [9], [], [11, 12], [], [13, 14, 15, 16, 17, 18, 19, 20, 21], [], [22, 23, 24, 25, 26, 27], [], [28, 29], [], [30, 31], []].getD i []
theorem e_proofmarkref01_add : compF Tryz.prog (fun _ => false) d_proofmarkref01_add 38 = some proofmarkref01_add := by kernel_rfl
theorem b_proofmarkref01_add : bodied Tryz.prog 38 = true := by kernel_rfl
def d_proofmarkref01_neg : Nat → List Nat := fun i => [[], [], [3, 4, 5], []].getD i []
theorem e_proofmarkref01_neg : compF Tryz.prog (fun _ => false) d_proofmarkref01_neg 39 = some proofmarkref01_neg := by kernel_rfl
theorem b_proofmarkref01_neg : bodied Tryz.prog 39 = true := by kernel_rfl
def d_proofmarkref01_mul : Nat → List Nat := fun i => [[], [], [], [], [], [], [7], [], [9, 10], [], [11, 12, 13], [], [15, 16, 17, 18, 19, 20, 21], [], [22], []].getD i []
theorem e_proofmarkref01_mul : compF Tryz.prog (fun _ => false) d_proofmarkref01_mul 40 = some proofmarkref01_mul := by kernel_rfl
theorem b_proofmarkref01_mul : bodied Tryz.prog 40 = true := by kernel_rfl
def d_proofmarkref01_quotients : Nat → List Nat := fun i => [[], [], [9], [], [11, 12, 13, 14, 15], [], [], [], [17], [], [19, 20, 21, 18, 22, 23], [], [24, 25, 26, 27, 28], [], [31, 32, 33, 30, 34, 35], [], [36, 37, 38, 39, 40], [], [42], [], [43], []].getD i []
theorem e_proofmarkref01_quotients : compF Tryz.prog (fun _ => false) d_proofmarkref01_quotients 41 = some proofmarkref01_quotients := by kernel_rfl
theorem b_proofmarkref01_quotients : bodied Tryz.prog 41 = true := by kernel_rfl
def d_proofmarkref01_moved : Nat → List Nat := fun i => [[], [], [], [], [], [], [13], [], [15, 16], [], [17, 18, 19], [], [], [], [21, 22, 23], [], [24], [], [25, 26, 27, 28, 29], [], [31, 32, 33], [], [34, 35, 36, 37], [], [], [], [39, 40, 41, 42, 43], [], [44, 45], []].getD i []
theorem e_proofmarkref01_moved : compF Tryz.prog (fun _ => false) d_proofmarkref01_moved 42 = some proofmarkref01_moved := by kernel_rfl
theorem b_proofmarkref01_moved : bodied Tryz.prog 42 = true := by kernel_rfl
def d_proofmarkref01_bit : Nat → List Nat := fun i => [[], [], [5, 6, 7, 8, 9], []].getD i []
theorem e_proofmarkref01_bit : compF Tryz.prog (fun _ => false) d_proofmarkref01_bit 43 = some proofmarkref01_bit := by kernel_rfl
theorem b_proofmarkref01_bit : bodied Tryz.prog 43 = true := by kernel_rfl
def d_proofmarkref01_one : Nat → List Nat := fun i => [[], [], [], [], [], [], [], []].getD i []
theorem e_proofmarkref01_one : compF Tryz.prog (fun _ => false) d_proofmarkref01_one 44 = some proofmarkref01_one := by kernel_rfl
theorem b_proofmarkref01_one : bodied Tryz.prog 44 = true := by kernel_rfl
def d_proofmarkref01_below : Nat → List Nat := fun i => [[], [], [], [], [6], [], [8, 9], [], [10, 11, 12, 13, 14, 15], [], [17, 18, 19, 20], [], [], []].getD i []
theorem e_proofmarkref01_below : compF Tryz.prog (fun _ => false) d_proofmarkref01_below 45 = some proofmarkref01_below := by kernel_rfl
theorem b_proofmarkref01_below : bodied Tryz.prog 45 = true := by kernel_rfl
def d_word_of : Nat → List Nat := fun i => [[], [], [4, 5, 6, 7, 8, 9, 10, 11, 12, 13, 14, 15, 16, 17, 18, 19, 20], [], [21, 22], [], [24], [], [25, 26, 27], []].getD i []
theorem e_word_of : compF Tryz.prog (fun _ => false) d_word_of 46 = some word_of := by kernel_rfl
theorem b_word_of : bodied Tryz.prog 46 = true := by kernel_rfl
def d_term_Graph_Uses_S1 : Nat → List Nat := fun i => [[8, 9, 10, 11, 12, 13, 14, 15, 16], [], [18, 19], [], [20, 21, 22, 23], [], [24, 25, 26, 27, 28, 29, 30], [], [], [], [35, 36], [], [37, 38, 39], [], [40], []].getD i []
theorem e_term_Graph_Uses_S1 : compF Tryz.prog (fun _ => false) d_term_Graph_Uses_S1 47 = some term_Graph_Uses_S1 := by kernel_rfl
theorem b_term_Graph_Uses_S1 : bodied Tryz.prog 47 = true := by kernel_rfl
def d_slices_Sort_term_ID_term_ID : Nat → List Nat := fun i => [[3, 4], [], [5, 6, 7, 8, 9, 10], []].getD i []
theorem e_slices_Sort_term_ID_term_ID : compF Tryz.prog (fun _ => false) d_slices_Sort_term_ID_term_ID 48 = some slices_Sort_term_ID_term_ID := by kernel_rfl
theorem b_slices_Sort_term_ID_term_ID : bodied Tryz.prog 48 = true := by kernel_rfl
def d_proofmarkref02_Graph_Uses : Nat → List Nat := fun i => [[], [], [], [], [], [], [9, 10, 11, 12, 13, 14], [], [16, 17], [], [], [], [], [], [18, 19, 20], [], [22, 23], [], [24, 25, 26, 27, 28, 29, 30, 31, 32, 33, 34, 35, 36, 37, 38, 39, 40, 41, 42, 43, 44, 45], [3, 3, 3, 3, 3, 0, 3, 3, 3, 3, 0, 2, 3, 3, 3, 3, 3, 0, 3, 2, 3, 3, 3], [], [], [47, 48, 49, 50], [], [51], []].getD i []
theorem e_proofmarkref02_Graph_Uses : compF Tryz.prog (fun _ => false) d_proofmarkref02_Graph_Uses 49 = some proofmarkref02_Graph_Uses := by kernel_rfl
theorem b_proofmarkref02_Graph_Uses : bodied Tryz.prog 49 = true := by kernel_rfl
def d_slices_pdqsortOrdered_int64 : Nat → List Nat := fun i => [[], [], [], [], [19, 20, 21], [], [22], [], [24, 25, 26, 27], [], [28], [], [30, 31, 32, 33], [], [34], [], [36, 37, 38, 39], [], [40, 41], [], [43, 44, 45, 46, 42, 47, 48], [], [49], [], [51, 52, 53, 54], [], [55, 56, 57, 58, 59, 60], [], [], [], [61, 62, 63, 64, 65, 66, 67], [], [69, 70, 71], [], [73, 74, 75, 76, 77, 78, 79, 80, 81, 82, 83, 84, 85, 86], [3, 3, 3, 3, 3, 3, 3, 0, 3, 3, 3, 0, 2, 3, 3], [88, 89, 90, 91, 92], [], [93], [], [95, 96, 97, 98, 99, 94, 100, 101], [], [102], [], [103, 104, 105, 106, 107, 108], [], [109, 110], [], [111, 112], [], [114, 115, 116], [], [117, 118, 119, 120, 121], [], [122, 123], [], [124, 125, 126], [], [127, 128, 129, 130, 131, 132], [], [133], []].getD i []
theorem e_slices_pdqsortOrdered_int64 : compF Tryz.prog (fun _ => false) d_slices_pdqsortOrdered_int64 50 = some slices_pdqsortOrdered_int64 := by kernel_rfl
theorem b_slices_pdqsortOrdered_int64 : bodied Tryz.prog 50 = true := by kernel_rfl
def d_math_bits_Len : Nat → List Nat := fun i => [[], [], [3, 4, 5], [], [6, 7], []].getD i []
theorem e_math_bits_Len : compF Tryz.prog (fun _ => false) d_math_bits_Len 51 = some math_bits_Len := by kernel_rfl
theorem b_math_bits_Len : bodied Tryz.prog 51 = true := by kernel_rfl
def d_term_bare : Nat → List Nat := fun i => [[], [], [3], [], [6], [], [7], [], [8], [], [10], [], [11, 12, 13], [], [15], [], [16, 17, 18], [], [19], [], [20], []].getD i []
theorem e_term_bare : compF Tryz.prog (fun _ => false) d_term_bare 52 = some term_bare := by kernel_rfl
theorem b_term_bare : bodied Tryz.prog 52 = true := by kernel_rfl
def d_strconv_FormatInt : Nat → List Nat := fun i => [[], [], [5, 6, 7], []].getD i []
theorem e_strconv_FormatInt : compF Tryz.prog (fun _ => false) d_strconv_FormatInt 53 = some strconv_FormatInt := by kernel_rfl
theorem b_strconv_FormatInt : bodied Tryz.prog 53 = true := by kernel_rfl
def d_strconv_Itoa : Nat → List Nat := fun i => [[], [], [3, 4], []].getD i []
theorem e_strconv_Itoa : compF Tryz.prog (fun _ => false) d_strconv_Itoa 54 = some strconv_Itoa := by kernel_rfl
theorem b_strconv_Itoa : bodied Tryz.prog 54 = true := by kernel_rfl
def d_term_sign : Nat → List Nat := fun i => [[], [], [3, 4, 5], []].getD i []
theorem e_term_sign : compF Tryz.prog (fun _ => false) d_term_sign 55 = some term_sign := by kernel_rfl
theorem b_term_sign : bodied Tryz.prog 55 = true := by kernel_rfl
def d_proofmarkref01_divide : Nat → List Nat := fun i => [[], [], [], [], [], [], [], [], [10], [], [12, 13], [], [14, 15], [], [16, 17, 18, 19, 20, 21, 22, 23], [], [24, 25, 26, 27, 28, 29, 30], [], [32, 33, 34, 35], [], [36, 37, 38, 39], [], [40, 41, 42], []].getD i []
theorem e_proofmarkref01_divide : compF Tryz.prog (fun _ => false) d_proofmarkref01_divide 56 = some proofmarkref01_divide := by kernel_rfl
theorem b_proofmarkref01_divide : bodied Tryz.prog 56 = true := by kernel_rfl
def d_proofmarkref01_signed : Nat → List Nat := fun i => [[], [], [10, 11], [], [12], [], [14, 15], [], [16], [], [18, 19], [], [21, 22, 23, 20, 24, 25], [], [26, 27, 28, 29], [], [31, 32], [], [33], [], [35, 36], [], [37, 38], []].getD i []
theorem e_proofmarkref01_signed : compF Tryz.prog (fun _ => false) d_proofmarkref01_signed 57 = some proofmarkref01_signed := by kernel_rfl
theorem b_proofmarkref01_signed : bodied Tryz.prog 57 = true := by kernel_rfl
def d_word_of_S1 : Nat → List Nat := fun i => [[], [], [5, 6, 7], []].getD i []
theorem e_word_of_S1 : compF Tryz.prog (fun _ => false) d_word_of_S1 58 = some word_of_S1 := by kernel_rfl
theorem b_word_of_S1 : bodied Tryz.prog 58 = true := by kernel_rfl
def d_word_of_S2 : Nat → List Nat := fun i => [[], [], [5, 6, 7], []].getD i []
theorem e_word_of_S2 : compF Tryz.prog (fun _ => false) d_word_of_S2 59 = some word_of_S2 := by kernel_rfl
theorem b_word_of_S2 : bodied Tryz.prog 59 = true := by kernel_rfl
def d_word_of_S3 : Nat → List Nat := fun i => [[], [], [5, 6, 7], []].getD i []
theorem e_word_of_S3 : compF Tryz.prog (fun _ => false) d_word_of_S3 60 = some word_of_S3 := by kernel_rfl
theorem b_word_of_S3 : bodied Tryz.prog 60 = true := by kernel_rfl
def d_word_div : Nat → List Nat := fun i => [[], [], [], [], [7], [], [], [], [9], [], [10, 11], [], [12, 13, 14], []].getD i []
theorem e_word_div : compF Tryz.prog (fun _ => false) d_word_div 61 = some word_div := by kernel_rfl
theorem b_word_div : bodied Tryz.prog 61 = true := by kernel_rfl
def d_word_rem : Nat → List Nat := fun i => [[], [], [], [], [7], [], [8], [], [10], [], [], [], [11, 12, 13], []].getD i []
theorem e_word_rem : compF Tryz.prog (fun _ => false) d_word_rem 62 = some word_rem := by kernel_rfl
theorem b_word_rem : bodied Tryz.prog 62 = true := by kernel_rfl
def d_word_divU : Nat → List Nat := fun i => [[], [], [5], [], [], [], [7, 8, 9, 10, 11, 12], []].getD i []
theorem e_word_divU : compF Tryz.prog (fun _ => false) d_word_divU 63 = some word_divU := by kernel_rfl
theorem b_word_divU : bodied Tryz.prog 63 = true := by kernel_rfl
def d_word_remU : Nat → List Nat := fun i => [[], [], [5], [], [7], [], [8, 9, 10, 11, 12, 13], []].getD i []
theorem e_word_remU : compF Tryz.prog (fun _ => false) d_word_remU 64 = some word_remU := by kernel_rfl
theorem b_word_remU : bodied Tryz.prog 64 = true := by kernel_rfl
def d_word_of_S4 : Nat → List Nat := fun i => [[], [], [5, 6, 7], []].getD i []
theorem e_word_of_S4 : compF Tryz.prog (fun _ => false) d_word_of_S4 65 = some word_of_S4 := by kernel_rfl
theorem b_word_of_S4 : bodied Tryz.prog 65 = true := by kernel_rfl
def d_word_of_S5 : Nat → List Nat := fun i => [[], [], [5, 6, 7], []].getD i []
theorem e_word_of_S5 : compF Tryz.prog (fun _ => false) d_word_of_S5 66 = some word_of_S5 := by kernel_rfl
theorem b_word_of_S5 : bodied Tryz.prog 66 = true := by kernel_rfl
def d_word_of_S6 : Nat → List Nat := fun i => [[], [], [5, 6, 7], []].getD i []
theorem e_word_of_S6 : compF Tryz.prog (fun _ => false) d_word_of_S6 67 = some word_of_S6 := by kernel_rfl
theorem b_word_of_S6 : bodied Tryz.prog 67 = true := by kernel_rfl
def d_word_of_S7 : Nat → List Nat := fun i => [[], [], [5, 6, 7, 8], []].getD i []
theorem e_word_of_S7 : compF Tryz.prog (fun _ => false) d_word_of_S7 68 = some word_of_S7 := by kernel_rfl
theorem b_word_of_S7 : bodied Tryz.prog 68 = true := by kernel_rfl
def d_word_of_S8 : Nat → List Nat := fun i => [[], [], [5, 6, 7, 8, 9, 10], []].getD i []
theorem e_word_of_S8 : compF Tryz.prog (fun _ => false) d_word_of_S8 69 = some word_of_S8 := by kernel_rfl
theorem b_word_of_S8 : bodied Tryz.prog 69 = true := by kernel_rfl
def d_word_of_S9 : Nat → List Nat := fun i => [[], [], [5, 6, 7, 8], []].getD i []
theorem e_word_of_S9 : compF Tryz.prog (fun _ => false) d_word_of_S9 70 = some word_of_S9 := by kernel_rfl
theorem b_word_of_S9 : bodied Tryz.prog 70 = true := by kernel_rfl
def d_word_of_S10 : Nat → List Nat := fun i => [[], [], [5, 6, 7, 8], []].getD i []
theorem e_word_of_S10 : compF Tryz.prog (fun _ => false) d_word_of_S10 71 = some word_of_S10 := by kernel_rfl
theorem b_word_of_S10 : bodied Tryz.prog 71 = true := by kernel_rfl
def d_word_one : Nat → List Nat := fun i => [[], [], [], [], [], [], [], []].getD i []
theorem e_word_one : compF Tryz.prog (fun _ => false) d_word_one 72 = some word_one := by kernel_rfl
theorem b_word_one : bodied Tryz.prog 72 = true := by kernel_rfl
def d_word_of_S11 : Nat → List Nat := fun i => [[], [], [5, 6, 7, 8, 9, 10], []].getD i []
theorem e_word_of_S11 : compF Tryz.prog (fun _ => false) d_word_of_S11 73 = some word_of_S11 := by kernel_rfl
theorem b_word_of_S11 : bodied Tryz.prog 73 = true := by kernel_rfl
def d_word_of_S12 : Nat → List Nat := fun i => [[], [], [5, 6, 7, 8], []].getD i []
theorem e_word_of_S12 : compF Tryz.prog (fun _ => false) d_word_of_S12 74 = some word_of_S12 := by kernel_rfl
theorem b_word_of_S12 : bodied Tryz.prog 74 = true := by kernel_rfl
def d_slices_pdqsortOrdered_term_ID : Nat → List Nat := fun i => [[], [], [], [], [19, 20, 21], [], [22], [], [24, 25, 26, 27], [], [28], [], [30, 31, 32, 33], [], [34], [], [36, 37, 38, 39], [], [40, 41], [], [43, 44, 45, 46, 42, 47, 48], [], [49], [], [51, 52, 53, 54], [], [55, 56, 57, 58, 59, 60], [], [], [], [61, 62, 63, 64, 65, 66, 67], [], [69, 70, 71], [], [73, 74, 75, 76, 77, 78, 79, 80, 81, 82, 83, 84, 85, 86], [3, 3, 3, 3, 3, 3, 3, 0, 3, 3, 3, 0, 2, 3, 3], [88, 89, 90, 91, 92], [], [93], [], [95, 96, 97, 98, 99, 94, 100, 101], [], [102], [], [103, 104, 105, 106, 107, 108], [], [109, 110], [], [111, 112], [], [114, 115, 116], [], [117, 118, 119, 120, 121], [], [122, 123], [], [124, 125, 126], [], [127, 128, 129, 130, 131, 132], [], [133], []].getD i []
theorem e_slices_pdqsortOrdered_term_ID : compF Tryz.prog (fun _ => false) d_slices_pdqsortOrdered_term_ID 75 = some slices_pdqsortOrdered_term_ID := by kernel_rfl
theorem b_slices_pdqsortOrdered_term_ID : bodied Tryz.prog 75 = true := by kernel_rfl
def d_proofmarkref02_has : Nat → List Nat := fun i => [[], [], [5, 6, 7, 8, 9, 10, 11], []].getD i []
theorem e_proofmarkref02_has : compF Tryz.prog (fun _ => false) d_proofmarkref02_has 76 = some proofmarkref02_has := by kernel_rfl
theorem b_proofmarkref02_has : bodied Tryz.prog 76 = true := by kernel_rfl
def d_proofmarkref02_Graph_uses : Nat → List Nat := fun i => [[], [], [8, 9], [], [], [], [11, 12, 13, 14, 15, 16, 17], [], [18, 19, 20, 21, 22, 23, 24, 25, 26, 27, 28, 29, 30, 31, 32, 33, 34, 35, 36, 37, 38, 39], []].getD i []
theorem e_proofmarkref02_Graph_uses : compF Tryz.prog (fun _ => false) d_proofmarkref02_Graph_uses 77 = some proofmarkref02_Graph_uses := by kernel_rfl
theorem b_proofmarkref02_Graph_uses : bodied Tryz.prog 77 = true := by kernel_rfl
def d_slices_insertionSortOrdered_int64 : Nat → List Nat := fun i => [[8, 9], [], [10, 11], [], [13, 14], [], [15], [], [16, 17, 18, 19, 20, 21, 22, 23, 24, 25, 26, 27, 28, 29], [3, 3, 3, 3, 3, 3, 3, 0, 3, 3, 3, 3, 0, 2, 3], [31, 32], [], [33, 34, 35, 36, 37, 38, 39, 40, 41, 42, 43, 44, 45, 46, 47, 48], [3, 3, 3, 3, 3, 3, 3, 3, 3, 0, 3, 3, 3, 0, 3, 2, 3, 2]].getD i []
theorem e_slices_insertionSortOrdered_int64 : compF Tryz.prog (fun _ => false) d_slices_insertionSortOrdered_int64 78 = some slices_insertionSortOrdered_int64 := by kernel_rfl
theorem b_slices_insertionSortOrdered_int64 : bodied Tryz.prog 78 = true := by kernel_rfl
def d_cmp_Less_int64 : Nat → List Nat := fun i => [[], [], [5, 6, 7, 8, 9, 10, 11, 12, 13, 14, 15, 16], []].getD i []
theorem e_cmp_Less_int64 : compF Tryz.prog (fun _ => false) d_cmp_Less_int64 84 = some cmp_Less_int64 := by kernel_rfl
theorem b_cmp_Less_int64 : bodied Tryz.prog 84 = true := by kernel_rfl
def d_math_bits_Len32 : Nat → List Nat := fun i => [[], [], [3], [], [5, 6], [], [], [], [7], [], [9, 10], [], [11, 12], [], [13, 14, 15, 16, 17, 18], []].getD i []
theorem e_math_bits_Len32 : compF Tryz.prog (fun _ => false) d_math_bits_Len32 87 = some math_bits_Len32 := by kernel_rfl
theorem b_math_bits_Len32 : bodied Tryz.prog 87 = true := by kernel_rfl
def d_math_bits_Len64 : Nat → List Nat := fun i => [[], [], [3], [], [5, 6], [], [], [], [7], [], [9, 10], [], [11, 12], [], [13], [], [15, 16], [], [17, 18], [], [19, 20, 21, 22, 23, 24], []].getD i []
theorem e_math_bits_Len64 : compF Tryz.prog (fun _ => false) d_math_bits_Len64 88 = some math_bits_Len64 := by kernel_rfl
theorem b_math_bits_Len64 : bodied Tryz.prog 88 = true := by kernel_rfl
def d_internal_strconv_FormatInt : Nat → List Nat := fun i => [[], [], [10], [], [12, 13, 14, 15, 16], [], [18, 19], [], [], [], [20, 21], [], [22], [], [24, 25], [], [26, 27], [], [28, 29, 30, 31, 32], [], [33], [], [35], [], [36, 37, 38, 39], [], [40, 41, 42, 43], [], [45, 46, 47, 48, 49, 50, 44, 51, 52, 8], [], [53], []].getD i []
theorem e_internal_strconv_FormatInt : compF Tryz.prog (fun _ => false) d_internal_strconv_FormatInt 89 = some internal_strconv_FormatInt := by kernel_rfl
theorem b_internal_strconv_FormatInt : bodied Tryz.prog 89 = true := by kernel_rfl
def d_internal_strconv_Itoa : Nat → List Nat := fun i => [[], [], [3, 4], []].getD i []
theorem e_internal_strconv_Itoa : compF Tryz.prog (fun _ => false) d_internal_strconv_Itoa 90 = some internal_strconv_Itoa := by kernel_rfl
theorem b_internal_strconv_Itoa : bodied Tryz.prog 90 = true := by kernel_rfl
def d_slices_insertionSortOrdered_term_ID : Nat → List Nat := fun i => [[8, 9], [], [10, 11], [], [13, 14], [], [15], [], [16, 17, 18, 19, 20, 21, 22, 23, 24, 25, 26, 27, 28, 29], [3, 3, 3, 3, 3, 3, 3, 0, 3, 3, 3, 3, 0, 2, 3], [31, 32], [], [33, 34, 35, 36, 37, 38, 39, 40, 41, 42, 43, 44, 45, 46, 47, 48], [3, 3, 3, 3, 3, 3, 3, 3, 3, 0, 3, 3, 3, 0, 3, 2, 3, 2]].getD i []
theorem e_slices_insertionSortOrdered_term_ID : compF Tryz.prog (fun _ => false) d_slices_insertionSortOrdered_term_ID 91 = some slices_insertionSortOrdered_term_ID := by kernel_rfl
theorem b_slices_insertionSortOrdered_term_ID : bodied Tryz.prog 91 = true := by kernel_rfl
def d_cmp_Less_term_ID : Nat → List Nat := fun i => [[], [], [5, 6, 7, 8, 9, 10, 11, 12, 13, 14, 15, 16], []].getD i []
theorem e_cmp_Less_term_ID : compF Tryz.prog (fun _ => false) d_cmp_Less_term_ID 97 = some cmp_Less_term_ID := by kernel_rfl
theorem b_cmp_Less_term_ID : bodied Tryz.prog 97 = true := by kernel_rfl
def d_cmp_isNaN_int64 : Nat → List Nat := fun i => [[], [], [3, 4, 5], []].getD i []
theorem e_cmp_isNaN_int64 : compF Tryz.prog (fun _ => false) d_cmp_isNaN_int64 105 = some cmp_isNaN_int64 := by kernel_rfl
theorem b_cmp_isNaN_int64 : bodied Tryz.prog 105 = true := by kernel_rfl
def d_internal_strconv_small : Nat → List Nat := fun i => [[], [], [3], [], [5, 6, 7, 8], [], [9, 10, 11, 12, 13, 14], []].getD i []
theorem e_internal_strconv_small : compF Tryz.prog (fun _ => false) d_internal_strconv_small 106 = some internal_strconv_small := by kernel_rfl
theorem b_internal_strconv_small : bodied Tryz.prog 106 = true := by kernel_rfl
def d_internal_strconv_numDigits : Nat → List Nat := fun i => [[], [], [4, 5, 6], [], [7, 8, 9, 10, 11, 12, 13, 14], []].getD i []
theorem e_internal_strconv_numDigits : compF Tryz.prog (fun _ => false) d_internal_strconv_numDigits 107 = some internal_strconv_numDigits := by kernel_rfl
theorem b_internal_strconv_numDigits : bodied Tryz.prog 107 = true := by kernel_rfl
def d_cmp_isNaN_term_ID : Nat → List Nat := fun i => [[], [], [3, 4, 5], []].getD i []
theorem e_cmp_isNaN_term_ID : compF Tryz.prog (fun _ => false) d_cmp_isNaN_term_ID 113 = some cmp_isNaN_term_ID := by kernel_rfl
theorem b_cmp_isNaN_term_ID : bodied Tryz.prog 113 = true := by kernel_rfl
def d_internal_strconv_log10Pow2 : Nat → List Nat := fun i => [[], [], [3, 4, 5], []].getD i []
theorem e_internal_strconv_log10Pow2 : compF Tryz.prog (fun _ => false) d_internal_strconv_log10Pow2 115 = some internal_strconv_log10Pow2 := by kernel_rfl
theorem b_internal_strconv_log10Pow2 : bodied Tryz.prog 115 = true := by kernel_rfl
def d_internal_strconv_bool2_int : Nat → List Nat := fun i => [[], [], [], [], [], [], [], []].getD i []
theorem e_internal_strconv_bool2_int : compF Tryz.prog (fun _ => false) d_internal_strconv_bool2_int 116 = some internal_strconv_bool2_int := by kernel_rfl
theorem b_internal_strconv_bool2_int : bodied Tryz.prog 116 = true := by kernel_rfl
def d_internal_strconv_isPowerOfTwo : Nat → List Nat := fun i => [[], [], [3, 4, 5, 6, 7], []].getD i []
theorem e_internal_strconv_isPowerOfTwo : compF Tryz.prog (fun _ => false) d_internal_strconv_isPowerOfTwo 117 = some internal_strconv_isPowerOfTwo := by kernel_rfl
theorem b_internal_strconv_isPowerOfTwo : bodied Tryz.prog 117 = true := by kernel_rfl
def d_math_bits_TrailingZeros : Nat → List Nat := fun i => [[], [], [3, 4, 5], [], [6, 7], []].getD i []
theorem e_math_bits_TrailingZeros : compF Tryz.prog (fun _ => false) d_math_bits_TrailingZeros 118 = some math_bits_TrailingZeros := by kernel_rfl
theorem b_math_bits_TrailingZeros : bodied Tryz.prog 118 = true := by kernel_rfl
def d_math_bits_TrailingZeros32 : Nat → List Nat := fun i => [[], [], [3], [], [], [], [5, 6, 7, 8, 9, 10, 11, 12, 13], []].getD i []
theorem e_math_bits_TrailingZeros32 : compF Tryz.prog (fun _ => false) d_math_bits_TrailingZeros32 120 = some math_bits_TrailingZeros32 := by kernel_rfl
theorem b_math_bits_TrailingZeros32 : bodied Tryz.prog 120 = true := by kernel_rfl
def d_math_bits_TrailingZeros64 : Nat → List Nat := fun i => [[], [], [3], [], [], [], [5, 6, 7, 8, 9, 10, 11, 12, 13], []].getD i []
theorem e_math_bits_TrailingZeros64 : compF Tryz.prog (fun _ => false) d_math_bits_TrailingZeros64 121 = some math_bits_TrailingZeros64 := by kernel_rfl
theorem b_math_bits_TrailingZeros64 : bodied Tryz.prog 121 = true := by kernel_rfl
theorem tab_ok : TabOk Tryz.prog tab := fun f A h => by
  unfold tab at h
  split at h
  · cases h; exact ⟨b_proofmarklaw03_ValueOf, _, _, e_proofmarklaw03_ValueOf⟩
  · cases h; exact ⟨b_proofmarklaw03_ValueKnown, _, _, e_proofmarklaw03_ValueKnown⟩
  · cases h; exact ⟨b_proofmarklaw03_few, _, _, e_proofmarklaw03_few⟩
  · cases h; exact ⟨b_proofmarklaw03_works, _, _, e_proofmarklaw03_works⟩
  · cases h; exact ⟨b_proofmarkkit_Made, _, _, e_proofmarkkit_Made⟩
  · cases h; exact ⟨b_proofmarkkit_Plain, _, _, e_proofmarkkit_Plain⟩
  · cases h; exact ⟨b_proofmarkkit_PlainEnv, _, _, e_proofmarkkit_PlainEnv⟩
  · cases h; exact ⟨b_value_Env_Sym, _, _, e_value_Env_Sym⟩
  · cases h; exact ⟨b_proofmarkref03_Env_Sym, _, _, e_proofmarkref03_Env_Sym⟩
  · cases h; exact ⟨b_value_Env_Cell, _, _, e_value_Env_Cell⟩
  · cases h; exact ⟨b_proofmarkref03_Env_Cell, _, _, e_proofmarkref03_Env_Cell⟩
  · cases h; exact ⟨b_proofmarkref03_All, _, _, e_proofmarkref03_All⟩
  · cases h; exact ⟨b_value_Of, _, _, e_value_Of⟩
  · cases h; exact ⟨b_value_All, _, _, e_value_All⟩
  · cases h; exact ⟨b_proofmarklaw03_ValueNeeds, _, _, e_proofmarklaw03_ValueNeeds⟩
  · cases h; exact ⟨b_proofmarklaw03_ValueNeeded, _, _, e_proofmarklaw03_ValueNeeded⟩
  · cases h; exact ⟨b_value_Needs, _, _, e_value_Needs⟩
  · cases h; exact ⟨b_term_New, _, _, e_term_New⟩
  · cases h; exact ⟨b_term_Graph_Add, _, _, e_term_Graph_Add⟩
  · cases h; exact ⟨b_term_Graph_Size, _, _, e_term_Graph_Size⟩
  · cases h; exact ⟨b_term_Graph_Node, _, _, e_term_Graph_Node⟩
  · cases h; exact ⟨b_proofmarkkit_PlainNode, _, _, e_proofmarkkit_PlainNode⟩
  · cases h; exact ⟨b_slices_IndexFunc_value_Cell_value_Cell, _, _, e_slices_IndexFunc_value_Cell_value_Cell⟩
  · cases h; exact ⟨b_value_Env_Cell_S1, _, _, e_value_Env_Cell_S1⟩
  · cases h; exact ⟨b_proofmarkref01_Do, _, _, e_proofmarkref01_Do⟩
  · cases h; exact ⟨b_value_All_S1, _, _, e_value_All_S1⟩
  · cases h; exact ⟨b_word_Do, _, _, e_word_Do⟩
  · cases h; exact ⟨b_term_Graph_Uses, _, _, e_term_Graph_Uses⟩
  · cases h; exact ⟨b_proofmarkref03_Needs, _, _, e_proofmarkref03_Needs⟩
  · cases h; exact ⟨b_proofmarklaw03_has, _, _, e_proofmarklaw03_has⟩
  · cases h; exact ⟨b_slices_Sort_int64_int64, _, _, e_slices_Sort_int64_int64⟩
  · cases h; exact ⟨b_term_Graph_may, _, _, e_term_Graph_may⟩
  · cases h; exact ⟨b_term_words, _, _, e_term_words⟩
  · cases h; exact ⟨b_term_parts, _, _, e_term_parts⟩
  · cases h; exact ⟨b_term_Graph_is, _, _, e_term_Graph_is⟩
  · cases h; exact ⟨b_proofmarkref01_add, _, _, e_proofmarkref01_add⟩
  · cases h; exact ⟨b_proofmarkref01_neg, _, _, e_proofmarkref01_neg⟩
  · cases h; exact ⟨b_proofmarkref01_mul, _, _, e_proofmarkref01_mul⟩
  · cases h; exact ⟨b_proofmarkref01_quotients, _, _, e_proofmarkref01_quotients⟩
  · cases h; exact ⟨b_proofmarkref01_moved, _, _, e_proofmarkref01_moved⟩
  · cases h; exact ⟨b_proofmarkref01_bit, _, _, e_proofmarkref01_bit⟩
  · cases h; exact ⟨b_proofmarkref01_one, _, _, e_proofmarkref01_one⟩
  · cases h; exact ⟨b_proofmarkref01_below, _, _, e_proofmarkref01_below⟩
  · cases h; exact ⟨b_word_of, _, _, e_word_of⟩
  · cases h; exact ⟨b_term_Graph_Uses_S1, _, _, e_term_Graph_Uses_S1⟩
  · cases h; exact ⟨b_slices_Sort_term_ID_term_ID, _, _, e_slices_Sort_term_ID_term_ID⟩
  · cases h; exact ⟨b_proofmarkref02_Graph_Uses, _, _, e_proofmarkref02_Graph_Uses⟩
  · cases h; exact ⟨b_slices_pdqsortOrdered_int64, _, _, e_slices_pdqsortOrdered_int64⟩
  · cases h; exact ⟨b_math_bits_Len, _, _, e_math_bits_Len⟩
  · cases h; exact ⟨b_term_bare, _, _, e_term_bare⟩
  · cases h; exact ⟨b_strconv_FormatInt, _, _, e_strconv_FormatInt⟩
  · cases h; exact ⟨b_strconv_Itoa, _, _, e_strconv_Itoa⟩
  · cases h; exact ⟨b_term_sign, _, _, e_term_sign⟩
  · cases h; exact ⟨b_proofmarkref01_divide, _, _, e_proofmarkref01_divide⟩
  · cases h; exact ⟨b_proofmarkref01_signed, _, _, e_proofmarkref01_signed⟩
  · cases h; exact ⟨b_word_of_S1, _, _, e_word_of_S1⟩
  · cases h; exact ⟨b_word_of_S2, _, _, e_word_of_S2⟩
  · cases h; exact ⟨b_word_of_S3, _, _, e_word_of_S3⟩
  · cases h; exact ⟨b_word_div, _, _, e_word_div⟩
  · cases h; exact ⟨b_word_rem, _, _, e_word_rem⟩
  · cases h; exact ⟨b_word_divU, _, _, e_word_divU⟩
  · cases h; exact ⟨b_word_remU, _, _, e_word_remU⟩
  · cases h; exact ⟨b_word_of_S4, _, _, e_word_of_S4⟩
  · cases h; exact ⟨b_word_of_S5, _, _, e_word_of_S5⟩
  · cases h; exact ⟨b_word_of_S6, _, _, e_word_of_S6⟩
  · cases h; exact ⟨b_word_of_S7, _, _, e_word_of_S7⟩
  · cases h; exact ⟨b_word_of_S8, _, _, e_word_of_S8⟩
  · cases h; exact ⟨b_word_of_S9, _, _, e_word_of_S9⟩
  · cases h; exact ⟨b_word_of_S10, _, _, e_word_of_S10⟩
  · cases h; exact ⟨b_word_one, _, _, e_word_one⟩
  · cases h; exact ⟨b_word_of_S11, _, _, e_word_of_S11⟩
  · cases h; exact ⟨b_word_of_S12, _, _, e_word_of_S12⟩
  · cases h; exact ⟨b_slices_pdqsortOrdered_term_ID, _, _, e_slices_pdqsortOrdered_term_ID⟩
  · cases h; exact ⟨b_proofmarkref02_has, _, _, e_proofmarkref02_has⟩
  · cases h; exact ⟨b_proofmarkref02_Graph_uses, _, _, e_proofmarkref02_Graph_uses⟩
  · cases h; exact ⟨b_slices_insertionSortOrdered_int64, _, _, e_slices_insertionSortOrdered_int64⟩
  · cases h; exact ⟨b_cmp_Less_int64, _, _, e_cmp_Less_int64⟩
  · cases h; exact ⟨b_math_bits_Len32, _, _, e_math_bits_Len32⟩
  · cases h; exact ⟨b_math_bits_Len64, _, _, e_math_bits_Len64⟩
  · cases h; exact ⟨b_internal_strconv_FormatInt, _, _, e_internal_strconv_FormatInt⟩
  · cases h; exact ⟨b_internal_strconv_Itoa, _, _, e_internal_strconv_Itoa⟩
  · cases h; exact ⟨b_slices_insertionSortOrdered_term_ID, _, _, e_slices_insertionSortOrdered_term_ID⟩
  · cases h; exact ⟨b_cmp_Less_term_ID, _, _, e_cmp_Less_term_ID⟩
  · cases h; exact ⟨b_cmp_isNaN_int64, _, _, e_cmp_isNaN_int64⟩
  · cases h; exact ⟨b_internal_strconv_small, _, _, e_internal_strconv_small⟩
  · cases h; exact ⟨b_internal_strconv_numDigits, _, _, e_internal_strconv_numDigits⟩
  · cases h; exact ⟨b_cmp_isNaN_term_ID, _, _, e_cmp_isNaN_term_ID⟩
  · cases h; exact ⟨b_internal_strconv_log10Pow2, _, _, e_internal_strconv_log10Pow2⟩
  · cases h; exact ⟨b_internal_strconv_bool2_int, _, _, e_internal_strconv_bool2_int⟩
  · cases h; exact ⟨b_internal_strconv_isPowerOfTwo, _, _, e_internal_strconv_isPowerOfTwo⟩
  · cases h; exact ⟨b_math_bits_TrailingZeros, _, _, e_math_bits_TrailingZeros⟩
  · cases h; exact ⟨b_math_bits_TrailingZeros32, _, _, e_math_bits_TrailingZeros32⟩
  · cases h; exact ⟨b_math_bits_TrailingZeros64, _, _, e_math_bits_TrailingZeros64⟩
  · cases h
end Go.Proofs.YtfligilbnpcnaaaGreatDoor
