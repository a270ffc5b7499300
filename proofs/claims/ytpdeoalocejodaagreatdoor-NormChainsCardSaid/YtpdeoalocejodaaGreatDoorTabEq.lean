/- The translations are so. -/
import Derived.Test.YtpdeoalocejodaaGreatDoorTabB
import Derived.Test.YtpdeoalocejodaaGreatDoorProg
namespace Go.Proofs.YtpdeoalocejodaaGreatDoor
open Go Go.Am
set_option maxRecDepth 100000
def d_proofmarklaw04_NormChains : Nat → List Nat := fun i => [[], [], [21, 22, 23, 24, 25, 26, 27], [], [29], [], [31, 32, 33, 30, 34, 35, 36, 37, 38, 13, 14], [], [39], [], [41], [], [42, 43, 44, 45, 46], [], [47, 48, 49, 50], [], [51, 52], [], [], [], [53, 54, 55], [], [57, 58], [], [59, 60, 61, 62, 63, 64, 65, 66, 67, 68], [], [69, 70, 71, 72, 73, 74, 75, 76, 77, 78, 79, 80, 81, 82, 83], [], [84, 85], [], [], [], [87, 88, 89, 90, 91, 92, 93, 94, 95, 96, 97, 98, 99, 100, 101, 102, 103, 104, 105], []].getD i []
theorem e_proofmarklaw04_NormChains : compF Tryz.prog (fun _ => false) d_proofmarklaw04_NormChains 5 = some proofmarklaw04_NormChains := by kernel_rfl
theorem b_proofmarklaw04_NormChains : bodied Tryz.prog 5 = true := by kernel_rfl
def d_proofmarklaw04_works : Nat → List Nat := fun i => [[], [], [9], [], [10, 11, 12, 13], [], [14, 15, 16, 17, 18, 19, 20, 21, 22], [], [23, 24, 25, 26, 27, 28, 29, 30, 31, 32], [], [33, 34, 35, 36], [], [37, 38, 39, 40, 41, 42, 43, 44], [], [45, 46, 47, 48, 49, 50, 51, 52, 53, 54, 55, 56, 57, 58, 59, 60, 61, 62, 63, 64, 65, 66, 67, 68, 69, 70, 71, 72, 73, 74, 75, 76, 77, 78, 79, 80, 81, 82, 83], []].getD i []
theorem e_proofmarklaw04_works : compF Tryz.prog (fun _ => false) d_proofmarklaw04_works 9 = some proofmarklaw04_works := by kernel_rfl
theorem b_proofmarklaw04_works : bodied Tryz.prog 9 = true := by kernel_rfl
def d_proofmarklaw04_plains : Nat → List Nat := fun i => [[], [], [19, 20, 18, 21, 22, 14], [], [23, 24], [], [26], [], [27, 28, 29, 30, 31, 32, 33, 34, 35], [], [36, 37, 38, 39, 40, 41, 42, 43, 44, 45], []].getD i []
theorem e_proofmarklaw04_plains : compF Tryz.prog (fun _ => false) d_proofmarklaw04_plains 10 = some proofmarklaw04_plains := by kernel_rfl
theorem b_proofmarklaw04_plains : bodied Tryz.prog 10 = true := by kernel_rfl
def d_norm_Const : Nat → List Nat := fun i => [[], [], [5, 6, 7, 8], []].getD i []
theorem e_norm_Const : compF Tryz.prog (fun _ => false) d_norm_Const 12 = some norm_Const := by kernel_rfl
theorem b_norm_Const : bodied Tryz.prog 12 = true := by kernel_rfl
def d_norm_Bin : Nat → List Nat := fun i => [[], [], [14, 15, 16, 13, 17, 18, 9], [], [20, 21, 22, 19, 23, 24, 11], [], [25, 26, 27, 28, 29, 30, 31, 32, 33, 34], [], [], [], [36, 37, 38, 39, 40, 41], []].getD i []
theorem e_norm_Bin : compF Tryz.prog (fun _ => false) d_norm_Bin 13 = some norm_Bin := by kernel_rfl
theorem b_norm_Bin : bodied Tryz.prog 13 = true := by kernel_rfl
def d_word_Do : Nat → List Nat := fun i => [[], [], [8, 9], [], [10, 11], [], [], [], [13, 14, 15, 16, 17], []].getD i []
theorem e_word_Do : compF Tryz.prog (fun _ => false) d_word_Do 14 = some word_Do := by kernel_rfl
theorem b_word_Do : bodied Tryz.prog 14 = true := by kernel_rfl
def d_word_Swaps : Nat → List Nat := fun i => [[], [], [3, 4, 5], []].getD i []
theorem e_word_Swaps : compF Tryz.prog (fun _ => false) d_word_Swaps 15 = some word_Swaps := by kernel_rfl
theorem b_word_Swaps : bodied Tryz.prog 15 = true := by kernel_rfl
def d_word_Groups : Nat → List Nat := fun i => [[], [], [3, 4, 5], []].getD i []
theorem e_word_Groups : compF Tryz.prog (fun _ => false) d_word_Groups 16 = some word_Groups := by kernel_rfl
theorem b_word_Groups : bodied Tryz.prog 16 = true := by kernel_rfl
def d_word_Keeps : Nat → List Nat := fun i => [[], [], [4, 5, 6, 7, 8, 9], []].getD i []
theorem e_word_Keeps : compF Tryz.prog (fun _ => false) d_word_Keeps 17 = some word_Keeps := by kernel_rfl
theorem b_word_Keeps : bodied Tryz.prog 17 = true := by kernel_rfl
def d_proofmarklaw04_num : Nat → List Nat := fun i => [[], [], [5, 6, 7], []].getD i []
theorem e_proofmarklaw04_num : compF Tryz.prog (fun _ => false) d_proofmarklaw04_num 20 = some proofmarklaw04_num := by kernel_rfl
theorem b_proofmarklaw04_num : bodied Tryz.prog 20 = true := by kernel_rfl
def d_norm_Not : Nat → List Nat := fun i => [[], [], [8, 9, 10, 7, 11, 12, 5], [], [13], [], [], [], [15, 16, 17, 18, 19], []].getD i []
theorem e_norm_Not : compF Tryz.prog (fun d => List.contains [18] d) d_norm_Not 21 = some norm_Not := by kernel_rfl
theorem b_norm_Not : bodied Tryz.prog 21 = true := by kernel_rfl
def d_proofmarkkit_Pick : Nat → List Nat := fun i => [[], [], [5], [], [], [], [7, 8, 9, 10, 11, 12, 13], []].getD i []
theorem e_proofmarkkit_Pick : compF Tryz.prog (fun _ => false) d_proofmarkkit_Pick 22 = some proofmarkkit_Pick := by kernel_rfl
theorem b_proofmarkkit_Pick : bodied Tryz.prog 22 = true := by kernel_rfl
def d_word_All : Nat → List Nat := fun i => [[], [], [8, 9], [], [], [], [11, 12, 13], [], [14], [], [], [], [19, 20], [], [21, 22, 23, 24], [], [25], [], [26], []].getD i []
theorem e_word_All : compF Tryz.prog (fun _ => false) d_word_All 23 = some word_All := by kernel_rfl
theorem b_word_All : bodied Tryz.prog 23 = true := by kernel_rfl
def d_proofmarkkit_Made : Nat → List Nat := fun i => [[], [], [7], [], [], [], [], [], [8, 9, 10], [], [12, 13], [], [14, 15, 16, 17, 18, 19, 20, 21, 22], [], [23, 24], []].getD i []
theorem e_proofmarkkit_Made : compF Tryz.prog (fun _ => false) d_proofmarkkit_Made 25 = some proofmarkkit_Made := by kernel_rfl
theorem b_proofmarkkit_Made : bodied Tryz.prog 25 = true := by kernel_rfl
def d_term_Graph_Size : Nat → List Nat := fun i => [[], [], [3], [], [], [], [5, 6, 7, 8, 9], []].getD i []
theorem e_term_Graph_Size : compF Tryz.prog (fun _ => false) d_term_Graph_Size 26 = some term_Graph_Size := by kernel_rfl
theorem b_term_Graph_Size : bodied Tryz.prog 26 = true := by kernel_rfl
def d_proofmarklaw04_at : Nat → List Nat := fun i => [[], [], [5, 6, 7, 8], []].getD i []
theorem e_proofmarklaw04_at : compF Tryz.prog (fun _ => false) d_proofmarklaw04_at 27 = some proofmarklaw04_at := by kernel_rfl
theorem b_proofmarklaw04_at : bodied Tryz.prog 27 = true := by kernel_rfl
def d_term_Graph_Node : Nat → List Nat := fun i => [[], [], [6, 7, 8], [], [10], [], [11, 12, 13, 14, 15, 16, 17], []].getD i []
theorem e_term_Graph_Node : compF Tryz.prog (fun _ => false) d_term_Graph_Node 29 = some term_Graph_Node := by kernel_rfl
theorem b_term_Graph_Node : bodied Tryz.prog 29 = true := by kernel_rfl
def d_norm_Number : Nat → List Nat := fun i => [[], [], [9, 10, 11, 8, 12, 13], [], [14, 15, 16, 17, 18, 19], [], [], [], [21, 22], []].getD i []
theorem e_norm_Number : compF Tryz.prog (fun _ => false) d_norm_Number 30 = some norm_Number := by kernel_rfl
theorem b_norm_Number : bodied Tryz.prog 30 = true := by kernel_rfl
def d_norm_Bool : Nat → List Nat := fun i => [[], [], [8, 9, 10, 7, 11, 12], [], [13], [], [], [], [15, 16, 17, 18, 19, 20, 21, 22, 23, 24, 25, 26, 27, 28, 29, 30, 31, 32, 33, 34, 35, 36, 37, 38, 39, 40, 41, 42, 43], []].getD i []
theorem e_norm_Bool : compF Tryz.prog (fun _ => false) d_norm_Bool 31 = some norm_Bool := by kernel_rfl
theorem b_norm_Bool : bodied Tryz.prog 31 = true := by kernel_rfl
def d_norm_Of : Nat → List Nat := fun i => [[], [], [13, 14, 15, 12, 16, 17, 5], [], [18], [], [], [], [20], [], [21, 22, 23], [], [], [], [28, 29], [], [31, 32, 33, 30, 34, 35, 11], [], [36], [], [38, 39, 40], [], [42], [], [43, 44, 45, 46, 47, 48, 49, 50, 51, 52, 53, 54], [], [56], [], [57, 58, 59, 60, 61, 62, 63, 64, 65, 66, 67, 68, 69, 70], [], [71], [], [72, 73, 74], []].getD i []
theorem e_norm_Of : compF Tryz.prog (fun _ => false) d_norm_Of 35 = some norm_Of := by kernel_rfl
theorem b_norm_Of : bodied Tryz.prog 35 = true := by kernel_rfl
def d_term_New : Nat → List Nat := fun i => [[], [], [1, 2, 3], []].getD i []
theorem e_term_New : compF Tryz.prog (fun _ => false) d_term_New 37 = some term_New := by kernel_rfl
theorem b_term_New : bodied Tryz.prog 37 = true := by kernel_rfl
def d_norm_Sym : Nat → List Nat := fun i => [[], [], [5, 6, 7, 8], []].getD i []
theorem e_norm_Sym : compF Tryz.prog (fun _ => false) d_norm_Sym 38 = some norm_Sym := by kernel_rfl
theorem b_norm_Sym : bodied Tryz.prog 38 = true := by kernel_rfl
def d_term_Graph_Text : Nat → List Nat := fun i => [[], [], [9, 10, 11, 12, 13, 14, 15, 16, 17, 18, 19, 20, 21], [], [], [], [23], [], [24, 25, 26], [], [], [], [31, 32], [], [33, 34, 35, 36, 37, 38, 39], [], [40, 41, 42, 43, 44, 45, 46, 47, 48, 49, 50, 51, 52, 53, 54], [], [55], [], [56, 57, 58, 59], []].getD i []
theorem e_term_Graph_Text : compF Tryz.prog (fun _ => false) d_term_Graph_Text 39 = some term_Graph_Text := by kernel_rfl
theorem b_term_Graph_Text : bodied Tryz.prog 39 = true := by kernel_rfl
def d_norm_Cell : Nat → List Nat := fun i => [[], [], [9, 10, 11, 12, 13, 14], []].getD i []
theorem e_norm_Cell : compF Tryz.prog (fun _ => false) d_norm_Cell 40 = some norm_Cell := by kernel_rfl
theorem b_norm_Cell : bodied Tryz.prog 40 = true := by kernel_rfl
def d_term_Graph_Add : Nat → List Nat := fun i => [[], [], [12, 13, 14, 15, 16, 17, 18], [], [], [], [21, 22, 23, 24, 25, 26, 20, 27, 28], [3, 3, 3, 0, 0, 0, 3, 3, 3, 3, 3], [], [], [30], [], [31, 32, 33, 34, 35], [], [36, 37, 38], [], [39], [], [], [], [44, 45], [], [46, 47, 48, 49, 50, 51, 52, 53, 54, 55, 56, 57, 58, 59, 60, 61, 62, 63], [3, 3, 3, 3, 0, 3, 3, 0, 3, 3, 3, 3, 3, 0, 3, 3, 0, 3, 3, 3], [64], [], [65, 66, 67, 68, 69, 70, 71, 72, 73, 74, 75, 76, 77, 78, 79, 80, 81, 82], [3, 3, 3, 3, 0, 1, 3, 3, 3, 0, 0, 1, 1, 3, 3, 3, 2, 2, 3, 2], [83, 84, 85, 86, 87, 88, 89, 90, 91, 92, 93, 94, 95, 96, 97, 98, 99, 100, 101, 102, 103, 104], [3, 3, 3, 3, 3, 0, 3, 3, 1, 1, 3, 3, 3, 0, 3, 3, 1, 2, 3, 3, 2, 3, 3, 2], [105], []].getD i []
theorem e_term_Graph_Add : compF Tryz.prog (fun _ => false) d_term_Graph_Add 41 = some term_Graph_Add := by kernel_rfl
theorem b_term_Graph_Add : bodied Tryz.prog 41 = true := by kernel_rfl
def d_word_Known : Nat → List Nat := fun i => [[], [], [3, 4, 5, 6], []].getD i []
theorem e_word_Known : compF Tryz.prog (fun _ => false) d_word_Known 42 = some word_Known := by kernel_rfl
theorem b_word_Known : bodied Tryz.prog 42 = true := by kernel_rfl
def d_norm_maker_bin : Nat → List Nat := fun i => [[], [], [15, 16, 17, 18, 14, 19, 20], [], [22, 23, 24, 25, 21, 26, 27], [], [28, 29, 30], [], [32, 33, 34, 35, 36, 37], [0, 3, 3, 3, 1, 2, 3], [38, 39, 40, 41, 42, 43, 44, 45, 46, 47, 48, 49, 50], [], [52, 53, 54, 55, 56, 57], [], [], [], [59, 60, 61], [], [62, 63, 64, 65], [], [67], [], [68, 69, 70, 71, 72], [], [74, 75, 76, 77, 78, 79, 80, 81, 82], [], [83, 84, 85, 86, 87, 88, 89], [1, 0, 3, 3, 2, 3, 2, 3], [90], [], [92], [], [93, 94, 95, 96, 97, 98, 99], []].getD i []
theorem e_norm_maker_bin : compF Tryz.prog (fun d => List.contains [37, 87] d) d_norm_maker_bin 43 = some norm_maker_bin := by kernel_rfl
theorem b_norm_maker_bin : bodied Tryz.prog 43 = true := by kernel_rfl
def d_word_of : Nat → List Nat := fun i => [[], [], [4, 5, 6, 7, 8, 9, 10, 11, 12, 13, 14, 15, 16, 17, 18, 19, 20], [], [21, 22], [], [24], [], [25, 26, 27], []].getD i []
theorem e_word_of : compF Tryz.prog (fun _ => false) d_word_of 44 = some word_of := by kernel_rfl
theorem b_word_of : bodied Tryz.prog 44 = true := by kernel_rfl
def d_term_Graph_is : Nat → List Nat := fun i => [[], [], [5, 6, 7, 8, 9, 10, 11, 12, 13, 14, 15, 16, 17, 18, 19], []].getD i []
theorem e_term_Graph_is : compF Tryz.prog (fun _ => false) d_term_Graph_is 46 = some term_Graph_is := by kernel_rfl
theorem b_term_Graph_is : bodied Tryz.prog 46 = true := by kernel_rfl
def d_norm_is : Nat → List Nat := fun i => [[], [], [], [], [], [], [11, 12], [], [13, 14], [], [], [], [16], [], [], []].getD i []
theorem e_norm_is : compF Tryz.prog (fun _ => false) d_norm_is 47 = some norm_is := by kernel_rfl
theorem b_norm_is : bodied Tryz.prog 47 = true := by kernel_rfl
def d_term_Graph_Uses : Nat → List Nat := fun i => [[], [], [10], [], [], [], [], [], [11], [], [], [], [], [], [16, 17], [], [18, 19, 20], [], [21], [], [22, 23], [], [24], []].getD i []
theorem e_term_Graph_Uses : compF Tryz.prog (fun _ => false) d_term_Graph_Uses 56 = some term_Graph_Uses := by kernel_rfl
theorem b_term_Graph_Uses : bodied Tryz.prog 56 = true := by kernel_rfl
def d_term_words : Nat → List Nat := fun i => [[], [], [8, 9, 10], [], [11], [], [14], [], [15], [], [17], [], [18, 19], [], [21], [], [22, 23, 24, 25, 26, 27, 28, 29, 30, 31, 32], [], [33, 34, 35, 36, 37, 38, 39, 40, 41, 42, 43], []].getD i []
theorem e_term_words : compF Tryz.prog (fun _ => false) d_term_words 57 = some term_words := by kernel_rfl
theorem b_term_words : bodied Tryz.prog 57 = true := by kernel_rfl
def d_term_Graph_may : Nat → List Nat := fun i => [[], [], [5, 6, 7], [], [], [], [9], [], [12], [], [], [], [14], [], [15, 16, 17], [], [19], [], [20, 21, 22, 23, 24, 25, 26, 27, 28, 29, 30, 31, 32, 33], [], [35], [], [36, 37, 38, 39, 40, 41, 42, 43, 44, 45, 46, 47, 48, 49, 50, 51, 52, 53, 54, 55], [], [], []].getD i []
theorem e_term_Graph_may : compF Tryz.prog (fun _ => false) d_term_Graph_may 58 = some term_Graph_may := by kernel_rfl
theorem b_term_Graph_may : bodied Tryz.prog 58 = true := by kernel_rfl
def d_term_parts : Nat → List Nat := fun i => [[], [], [3], [], [6], [], [7, 8, 9], [], [11], [], [12, 13, 14, 15, 16], [], [], []].getD i []
theorem e_term_parts : compF Tryz.prog (fun _ => false) d_term_parts 59 = some term_parts := by kernel_rfl
theorem b_term_parts : bodied Tryz.prog 59 = true := by kernel_rfl
def d_norm_maker_num : Nat → List Nat := fun i => [[], [], [5, 6, 7, 8], []].getD i []
theorem e_norm_maker_num : compF Tryz.prog (fun _ => false) d_norm_maker_num 60 = some norm_maker_num := by kernel_rfl
theorem b_norm_maker_num : bodied Tryz.prog 60 = true := by kernel_rfl
def d_norm_maker_same : Nat → List Nat := fun i => [[], [], [], [], [9], [], [10], [], [11], [], [12], [], [13, 14], [], [16], [], [17, 18], [], [20], [], [21], [], [22], [], [], []].getD i []
theorem e_norm_maker_same : compF Tryz.prog (fun _ => false) d_norm_maker_same 61 = some norm_maker_same := by kernel_rfl
theorem b_norm_maker_same : bodied Tryz.prog 61 = true := by kernel_rfl
def d_norm_maker_number : Nat → List Nat := fun i => [[], [], [14], [], [15], [], [16, 17, 18, 19, 20, 21, 22, 23], [], [], [], [28, 29], [], [30, 31, 32, 33, 34], [], [35], [], [37], [], [38], [], [], []].getD i []
theorem e_norm_maker_number : compF Tryz.prog (fun d => List.contains [24, 34] d) d_norm_maker_number 62 = some norm_maker_number := by kernel_rfl
theorem b_norm_maker_number : bodied Tryz.prog 62 = true := by kernel_rfl
def d_word_of_S1 : Nat → List Nat := fun i => [[], [], [5, 6, 7], []].getD i []
theorem e_word_of_S1 : compF Tryz.prog (fun _ => false) d_word_of_S1 63 = some word_of_S1 := by kernel_rfl
theorem b_word_of_S1 : bodied Tryz.prog 63 = true := by kernel_rfl
def d_word_of_S2 : Nat → List Nat := fun i => [[], [], [5, 6, 7], []].getD i []
theorem e_word_of_S2 : compF Tryz.prog (fun _ => false) d_word_of_S2 64 = some word_of_S2 := by kernel_rfl
theorem b_word_of_S2 : bodied Tryz.prog 64 = true := by kernel_rfl
def d_word_of_S3 : Nat → List Nat := fun i => [[], [], [5, 6, 7], []].getD i []
theorem e_word_of_S3 : compF Tryz.prog (fun _ => false) d_word_of_S3 65 = some word_of_S3 := by kernel_rfl
theorem b_word_of_S3 : bodied Tryz.prog 65 = true := by kernel_rfl
def d_word_div : Nat → List Nat := fun i => [[], [], [], [], [7], [], [], [], [9], [], [10, 11], [], [12, 13, 14], []].getD i []
theorem e_word_div : compF Tryz.prog (fun _ => false) d_word_div 66 = some word_div := by kernel_rfl
theorem b_word_div : bodied Tryz.prog 66 = true := by kernel_rfl
def d_word_rem : Nat → List Nat := fun i => [[], [], [], [], [7], [], [8], [], [10], [], [], [], [11, 12, 13], []].getD i []
theorem e_word_rem : compF Tryz.prog (fun _ => false) d_word_rem 67 = some word_rem := by kernel_rfl
theorem b_word_rem : bodied Tryz.prog 67 = true := by kernel_rfl
def d_word_divU : Nat → List Nat := fun i => [[], [], [5], [], [], [], [7, 8, 9, 10, 11, 12], []].getD i []
theorem e_word_divU : compF Tryz.prog (fun _ => false) d_word_divU 68 = some word_divU := by kernel_rfl
theorem b_word_divU : bodied Tryz.prog 68 = true := by kernel_rfl
def d_word_remU : Nat → List Nat := fun i => [[], [], [5], [], [7], [], [8, 9, 10, 11, 12, 13], []].getD i []
theorem e_word_remU : compF Tryz.prog (fun _ => false) d_word_remU 69 = some word_remU := by kernel_rfl
theorem b_word_remU : bodied Tryz.prog 69 = true := by kernel_rfl
def d_word_of_S4 : Nat → List Nat := fun i => [[], [], [5, 6, 7], []].getD i []
theorem e_word_of_S4 : compF Tryz.prog (fun _ => false) d_word_of_S4 70 = some word_of_S4 := by kernel_rfl
theorem b_word_of_S4 : bodied Tryz.prog 70 = true := by kernel_rfl
def d_word_of_S5 : Nat → List Nat := fun i => [[], [], [5, 6, 7], []].getD i []
theorem e_word_of_S5 : compF Tryz.prog (fun _ => false) d_word_of_S5 71 = some word_of_S5 := by kernel_rfl
theorem b_word_of_S5 : bodied Tryz.prog 71 = true := by kernel_rfl
def d_word_of_S6 : Nat → List Nat := fun i => [[], [], [5, 6, 7], []].getD i []
theorem e_word_of_S6 : compF Tryz.prog (fun _ => false) d_word_of_S6 72 = some word_of_S6 := by kernel_rfl
theorem b_word_of_S6 : bodied Tryz.prog 72 = true := by kernel_rfl
def d_word_of_S7 : Nat → List Nat := fun i => [[], [], [5, 6, 7, 8], []].getD i []
theorem e_word_of_S7 : compF Tryz.prog (fun _ => false) d_word_of_S7 73 = some word_of_S7 := by kernel_rfl
theorem b_word_of_S7 : bodied Tryz.prog 73 = true := by kernel_rfl
def d_word_of_S8 : Nat → List Nat := fun i => [[], [], [5, 6, 7, 8, 9, 10], []].getD i []
theorem e_word_of_S8 : compF Tryz.prog (fun _ => false) d_word_of_S8 74 = some word_of_S8 := by kernel_rfl
theorem b_word_of_S8 : bodied Tryz.prog 74 = true := by kernel_rfl
def d_word_of_S9 : Nat → List Nat := fun i => [[], [], [5, 6, 7, 8], []].getD i []
theorem e_word_of_S9 : compF Tryz.prog (fun _ => false) d_word_of_S9 75 = some word_of_S9 := by kernel_rfl
theorem b_word_of_S9 : bodied Tryz.prog 75 = true := by kernel_rfl
def d_word_of_S10 : Nat → List Nat := fun i => [[], [], [5, 6, 7, 8], []].getD i []
theorem e_word_of_S10 : compF Tryz.prog (fun _ => false) d_word_of_S10 76 = some word_of_S10 := by kernel_rfl
theorem b_word_of_S10 : bodied Tryz.prog 76 = true := by kernel_rfl
def d_word_one : Nat → List Nat := fun i => [[], [], [], [], [], [], [], []].getD i []
theorem e_word_one : compF Tryz.prog (fun _ => false) d_word_one 77 = some word_one := by kernel_rfl
theorem b_word_one : bodied Tryz.prog 77 = true := by kernel_rfl
def d_word_of_S11 : Nat → List Nat := fun i => [[], [], [5, 6, 7, 8, 9, 10], []].getD i []
theorem e_word_of_S11 : compF Tryz.prog (fun _ => false) d_word_of_S11 78 = some word_of_S11 := by kernel_rfl
theorem b_word_of_S11 : bodied Tryz.prog 78 = true := by kernel_rfl
def d_word_of_S12 : Nat → List Nat := fun i => [[], [], [5, 6, 7, 8], []].getD i []
theorem e_word_of_S12 : compF Tryz.prog (fun _ => false) d_word_of_S12 79 = some word_of_S12 := by kernel_rfl
theorem b_word_of_S12 : bodied Tryz.prog 79 = true := by kernel_rfl
def d_term_Graph_Uses_S1 : Nat → List Nat := fun i => [[8, 9, 10, 11, 12, 13, 14, 15, 16], [], [18, 19], [], [20, 21, 22, 23], [], [24, 25, 26, 27, 28, 29, 30], [], [], [], [35, 36], [], [37, 38, 39], [], [40], []].getD i []
theorem e_term_Graph_Uses_S1 : compF Tryz.prog (fun _ => false) d_term_Graph_Uses_S1 85 = some term_Graph_Uses_S1 := by kernel_rfl
theorem b_term_Graph_Uses_S1 : bodied Tryz.prog 85 = true := by kernel_rfl
def d_slices_Sort_term_ID_term_ID : Nat → List Nat := fun i => [[3, 4], [], [5, 6, 7, 8, 9, 10], []].getD i []
theorem e_slices_Sort_term_ID_term_ID : compF Tryz.prog (fun _ => false) d_slices_Sort_term_ID_term_ID 86 = some slices_Sort_term_ID_term_ID := by kernel_rfl
theorem b_slices_Sort_term_ID_term_ID : bodied Tryz.prog 86 = true := by kernel_rfl
def d_strconv_FormatInt : Nat → List Nat := fun i => [[], [], [5, 6, 7], []].getD i []
theorem e_strconv_FormatInt : compF Tryz.prog (fun _ => false) d_strconv_FormatInt 87 = some strconv_FormatInt := by kernel_rfl
theorem b_strconv_FormatInt : bodied Tryz.prog 87 = true := by kernel_rfl
def d_strconv_Itoa : Nat → List Nat := fun i => [[], [], [3, 4], []].getD i []
theorem e_strconv_Itoa : compF Tryz.prog (fun _ => false) d_strconv_Itoa 88 = some strconv_Itoa := by kernel_rfl
theorem b_strconv_Itoa : bodied Tryz.prog 88 = true := by kernel_rfl
def d_term_sign : Nat → List Nat := fun i => [[], [], [3, 4, 5], []].getD i []
theorem e_term_sign : compF Tryz.prog (fun _ => false) d_term_sign 89 = some term_sign := by kernel_rfl
theorem b_term_sign : bodied Tryz.prog 89 = true := by kernel_rfl
def d_term_bare : Nat → List Nat := fun i => [[], [], [3], [], [6], [], [7], [], [8], [], [10], [], [11, 12, 13], [], [15], [], [16, 17, 18], [], [19], [], [20], []].getD i []
theorem e_term_bare : compF Tryz.prog (fun _ => false) d_term_bare 90 = some term_bare := by kernel_rfl
theorem b_term_bare : bodied Tryz.prog 90 = true := by kernel_rfl
def d_norm_maker_number_S1 : Nat → List Nat := fun i => [[], [], [12, 13, 14, 15, 11, 16, 17, 18], [], [19, 20, 21, 22], [], [24, 25, 26, 27, 28, 29, 30, 31, 32, 33], [1, 3, 3, 0, 3, 3, 3, 1, 2, 2, 3], [], []].getD i []
theorem e_norm_maker_number_S1 : compF Tryz.prog (fun d => List.contains [32] d) d_norm_maker_number_S1 91 = some norm_maker_number_S1 := by kernel_rfl
theorem b_norm_maker_number_S1 : bodied Tryz.prog 91 = true := by kernel_rfl
def d_norm_maker_tail : Nat → List Nat := fun i => [[], [], [11, 12, 13, 14, 10, 15, 16, 17], [], [18], [], [], [], [21, 22, 23, 24, 20, 25, 26], [], [27, 28, 29], []].getD i []
theorem e_norm_maker_tail : compF Tryz.prog (fun _ => false) d_norm_maker_tail 92 = some norm_maker_tail := by kernel_rfl
theorem b_norm_maker_tail : bodied Tryz.prog 92 = true := by kernel_rfl
def d_norm_maker_number_S2 : Nat → List Nat := fun i => [[], [], [8], [], [], [], [10, 11, 12, 13], []].getD i []
theorem e_norm_maker_number_S2 : compF Tryz.prog (fun _ => false) d_norm_maker_number_S2 93 = some norm_maker_number_S2 := by kernel_rfl
theorem b_norm_maker_number_S2 : bodied Tryz.prog 93 = true := by kernel_rfl
def d_norm_maker_equal : Nat → List Nat := fun i => [[], [], [19, 20, 21, 18, 22, 23, 24], [], [], [], [26, 27, 28, 29, 30, 31, 32, 33], [1, 3, 0, 3, 3, 3, 2, 2, 3], [35, 36, 37, 34, 38, 39, 40], [], [], [], [42, 43, 44, 45, 46, 47, 48, 49], [1, 3, 0, 3, 3, 3, 2, 2, 3], [], [], [], [], [54, 55], [], [57, 58, 59, 60, 56, 61, 62, 63], [], [64, 65, 66, 67], [], [69, 70, 71, 72], [], [73], [], [], []].getD i []
theorem e_norm_maker_equal : compF Tryz.prog (fun d => List.contains [32, 48] d) d_norm_maker_equal 94 = some norm_maker_equal := by kernel_rfl
theorem b_norm_maker_equal : bodied Tryz.prog 94 = true := by kernel_rfl
def d_norm_maker_fixed : Nat → List Nat := fun i => [[], [], [12, 13, 11, 14, 15], [], [16, 17, 18, 19, 20], [], [22], [], [24, 25, 26, 27, 28, 29, 30, 31], [], [32, 33], [], [35, 36, 37, 38, 39, 40], [], [41, 42], [], [44, 45, 46, 47, 48, 49, 50, 51], [], [52, 53], [], [], []].getD i []
theorem e_norm_maker_fixed : compF Tryz.prog (fun _ => false) d_norm_maker_fixed 95 = some norm_maker_fixed := by kernel_rfl
theorem b_norm_maker_fixed : bodied Tryz.prog 95 = true := by kernel_rfl
def d_norm_maker_moved : Nat → List Nat := fun i => [[], [], [12, 13, 11, 14, 15], [], [17, 18], [], [19, 20, 21, 22, 23, 24, 25], [1, 3, 0, 3, 3, 2, 2, 3], [27, 28], [], [29, 30, 31, 32, 33, 34, 35, 36], [1, 3, 0, 3, 3, 3, 2, 2, 3], [38, 39, 40, 41, 42, 43, 44, 45, 46, 47, 48, 49], [], [50, 51, 52, 53, 54, 55, 56, 57], [1, 3, 3, 0, 3, 3, 2, 2, 3], [59, 60, 61, 62, 63], [], [64, 65, 66, 67, 68, 69], [1, 3, 0, 3, 2, 2, 3], [71, 72, 73, 74, 75], [], [76, 77, 78, 79, 80, 81, 82], [1, 3, 0, 3, 3, 2, 2, 3], [84, 85, 86, 87, 88, 89], [], [90, 91, 92, 93, 94], [1, 3, 0, 2, 2, 3], [], []].getD i []
theorem e_norm_maker_moved : compF Tryz.prog (fun d => List.contains [24, 35, 56, 68, 81, 93] d) d_norm_maker_moved 96 = some norm_maker_moved := by kernel_rfl
theorem b_norm_maker_moved : bodied Tryz.prog 96 = true := by kernel_rfl
def d_norm_maker_truth : Nat → List Nat := fun i => [[], [], [13, 14, 15, 16, 17], [], [], [], [19, 20, 21, 22, 23, 24, 25], [], [26, 27, 28, 29, 30, 31], [], [32], [], [34, 35], [], [36, 37, 38, 39, 40, 41], [], [42, 43], [], [45, 46, 47, 48, 49, 50, 51], [], [52, 53, 54, 55, 56, 57, 58, 59, 60, 61, 62], [1, 1, 3, 0, 2, 2, 1, 3, 3, 2, 2, 3], [64, 65, 66, 63, 67, 68, 69], [], [70, 71, 72, 73, 74, 75, 76, 77, 78, 79, 80, 81, 82, 83], [], [85], [], [], []].getD i []
theorem e_norm_maker_truth : compF Tryz.prog (fun d => List.contains [56, 57, 61] d) d_norm_maker_truth 97 = some norm_maker_truth := by kernel_rfl
theorem b_norm_maker_truth : bodied Tryz.prog 97 = true := by kernel_rfl
def d_norm_maker_of : Nat → List Nat := fun i => [[], [], [12, 13, 14, 15, 11, 16, 17, 10], [], [18, 19, 20, 21, 22, 23, 24, 25], [], [], [], [27, 28, 29, 30], [3, 0, 3, 0, 3, 3, 3]].getD i []
theorem e_norm_maker_of : compF Tryz.prog (fun _ => false) d_norm_maker_of 104 = some norm_maker_of := by kernel_rfl
theorem b_norm_maker_of : bodied Tryz.prog 104 = true := by kernel_rfl
def d_word_Power : Nat → List Nat := fun i => [[], [], [4, 5, 6], [], [], [], [8, 9, 10], []].getD i []
theorem e_word_Power : compF Tryz.prog (fun _ => false) d_word_Power 105 = some word_Power := by kernel_rfl
theorem b_word_Power : bodied Tryz.prog 105 = true := by kernel_rfl
def d_math_bits_OnesCount64 : Nat → List Nat := fun i => [[], [], [3, 4, 5, 6, 7, 8], [], [9, 10, 11, 12, 13, 14], [], [15, 16, 17, 18, 19], [], [20, 21, 22, 23], [], [24, 25, 26, 27], [], [28, 29, 30, 31], [], [32, 33, 34], []].getD i []
theorem e_math_bits_OnesCount64 : compF Tryz.prog (fun _ => false) d_math_bits_OnesCount64 121 = some math_bits_OnesCount64 := by kernel_rfl
theorem b_math_bits_OnesCount64 : bodied Tryz.prog 121 = true := by kernel_rfl
def d_math_bits_TrailingZeros64 : Nat → List Nat := fun i => [[], [], [3], [], [], [], [5, 6, 7, 8, 9, 10, 11, 12, 13], []].getD i []
theorem e_math_bits_TrailingZeros64 : compF Tryz.prog (fun _ => false) d_math_bits_TrailingZeros64 122 = some math_bits_TrailingZeros64 := by kernel_rfl
theorem b_math_bits_TrailingZeros64 : bodied Tryz.prog 122 = true := by kernel_rfl
theorem tab_ok : TabOk Tryz.prog tab := fun f A h => by
  unfold tab at h
  split at h
  · cases h; exact ⟨b_proofmarklaw04_NormChains, _, _, e_proofmarklaw04_NormChains⟩
  · cases h; exact ⟨b_proofmarklaw04_works, _, _, e_proofmarklaw04_works⟩
  · cases h; exact ⟨b_proofmarklaw04_plains, _, _, e_proofmarklaw04_plains⟩
  · cases h; exact ⟨b_norm_Const, _, _, e_norm_Const⟩
  · cases h; exact ⟨b_norm_Bin, _, _, e_norm_Bin⟩
  · cases h; exact ⟨b_word_Do, _, _, e_word_Do⟩
  · cases h; exact ⟨b_word_Swaps, _, _, e_word_Swaps⟩
  · cases h; exact ⟨b_word_Groups, _, _, e_word_Groups⟩
  · cases h; exact ⟨b_word_Keeps, _, _, e_word_Keeps⟩
  · cases h; exact ⟨b_proofmarklaw04_num, _, _, e_proofmarklaw04_num⟩
  · cases h; exact ⟨b_norm_Not, _, _, e_norm_Not⟩
  · cases h; exact ⟨b_proofmarkkit_Pick, _, _, e_proofmarkkit_Pick⟩
  · cases h; exact ⟨b_word_All, _, _, e_word_All⟩
  · cases h; exact ⟨b_proofmarkkit_Made, _, _, e_proofmarkkit_Made⟩
  · cases h; exact ⟨b_term_Graph_Size, _, _, e_term_Graph_Size⟩
  · cases h; exact ⟨b_proofmarklaw04_at, _, _, e_proofmarklaw04_at⟩
  · cases h; exact ⟨b_term_Graph_Node, _, _, e_term_Graph_Node⟩
  · cases h; exact ⟨b_norm_Number, _, _, e_norm_Number⟩
  · cases h; exact ⟨b_norm_Bool, _, _, e_norm_Bool⟩
  · cases h; exact ⟨b_norm_Of, _, _, e_norm_Of⟩
  · cases h; exact ⟨b_term_New, _, _, e_term_New⟩
  · cases h; exact ⟨b_norm_Sym, _, _, e_norm_Sym⟩
  · cases h; exact ⟨b_term_Graph_Text, _, _, e_term_Graph_Text⟩
  · cases h; exact ⟨b_norm_Cell, _, _, e_norm_Cell⟩
  · cases h; exact ⟨b_term_Graph_Add, _, _, e_term_Graph_Add⟩
  · cases h; exact ⟨b_word_Known, _, _, e_word_Known⟩
  · cases h; exact ⟨b_norm_maker_bin, _, _, e_norm_maker_bin⟩
  · cases h; exact ⟨b_word_of, _, _, e_word_of⟩
  · cases h; exact ⟨b_term_Graph_is, _, _, e_term_Graph_is⟩
  · cases h; exact ⟨b_norm_is, _, _, e_norm_is⟩
  · cases h; exact ⟨b_term_Graph_Uses, _, _, e_term_Graph_Uses⟩
  · cases h; exact ⟨b_term_words, _, _, e_term_words⟩
  · cases h; exact ⟨b_term_Graph_may, _, _, e_term_Graph_may⟩
  · cases h; exact ⟨b_term_parts, _, _, e_term_parts⟩
  · cases h; exact ⟨b_norm_maker_num, _, _, e_norm_maker_num⟩
  · cases h; exact ⟨b_norm_maker_same, _, _, e_norm_maker_same⟩
  · cases h; exact ⟨b_norm_maker_number, _, _, e_norm_maker_number⟩
  · cases h; exact ⟨b_word_of_S1, _, _, e_word_of_S1⟩
  · cases h; exact ⟨b_word_of_S2, _, _, e_word_of_S2⟩
  · cases h; exact ⟨b_word_of_S3, _, _, e_word_of_S3⟩
  · cases h; exact ⟨b_word_div, _, _, e_word_div⟩
  · cases h; exact ⟨b_word_rem, _, _, e_word_rem⟩
  · cases h; exact ⟨b_word_divU, _, _, e_word_divU⟩
  · cases h; exact ⟨b_word_remU, _, _, e_word_remU⟩
  · cases h; exact ⟨b_word_of_S4, _, _, e_word_of_S4⟩
  · cases h; exact ⟨b_word_of_S5, _, _, e_word_of_S5⟩
  · cases h; exact ⟨b_word_of_S6, _, _, e_word_of_S6⟩
  · cases h; exact ⟨b_word_of_S7, _, _, e_word_of_S7⟩
  · cases h; exact ⟨b_word_of_S8, _, _, e_word_of_S8⟩
  · cases h; exact ⟨b_word_of_S9, _, _, e_word_of_S9⟩
  · cases h; exact ⟨b_word_of_S10, _, _, e_word_of_S10⟩
  · cases h; exact ⟨b_word_one, _, _, e_word_one⟩
  · cases h; exact ⟨b_word_of_S11, _, _, e_word_of_S11⟩
  · cases h; exact ⟨b_word_of_S12, _, _, e_word_of_S12⟩
  · cases h; exact ⟨b_term_Graph_Uses_S1, _, _, e_term_Graph_Uses_S1⟩
  · cases h; exact ⟨b_slices_Sort_term_ID_term_ID, _, _, e_slices_Sort_term_ID_term_ID⟩
  · cases h; exact ⟨b_strconv_FormatInt, _, _, e_strconv_FormatInt⟩
  · cases h; exact ⟨b_strconv_Itoa, _, _, e_strconv_Itoa⟩
  · cases h; exact ⟨b_term_sign, _, _, e_term_sign⟩
  · cases h; exact ⟨b_term_bare, _, _, e_term_bare⟩
  · cases h; exact ⟨b_norm_maker_number_S1, _, _, e_norm_maker_number_S1⟩
  · cases h; exact ⟨b_norm_maker_tail, _, _, e_norm_maker_tail⟩
  · cases h; exact ⟨b_norm_maker_number_S2, _, _, e_norm_maker_number_S2⟩
  · cases h; exact ⟨b_norm_maker_equal, _, _, e_norm_maker_equal⟩
  · cases h; exact ⟨b_norm_maker_fixed, _, _, e_norm_maker_fixed⟩
  · cases h; exact ⟨b_norm_maker_moved, _, _, e_norm_maker_moved⟩
  · cases h; exact ⟨b_norm_maker_truth, _, _, e_norm_maker_truth⟩
  · cases h; exact ⟨b_norm_maker_of, _, _, e_norm_maker_of⟩
  · cases h; exact ⟨b_word_Power, _, _, e_word_Power⟩
  · cases h; exact ⟨b_math_bits_OnesCount64, _, _, e_math_bits_OnesCount64⟩
  · cases h; exact ⟨b_math_bits_TrailingZeros64, _, _, e_math_bits_TrailingZeros64⟩
  · cases h
end Go.Proofs.YtpdeoalocejodaaGreatDoor
