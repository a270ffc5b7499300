/- The translations are so. -/
import Derived.Test.YtkhdfbokkneeaaaDoorTabB
import Derived.Test.YtkhdfbokkneeaaaDoorProg
namespace Go.Proofs.YtkhdfbokkneeaaaDoor
open Go Go.Am
set_option maxRecDepth 100000
def d_proofmarklaw10_RvDecodes : Nat → List Nat := fun i => [[], [], [10, 11, 9, 12, 13], [], [15, 16, 14, 17, 18], [], [19, 20, 21, 22, 23, 24, 25, 26], [3, 3, 3, 3, 0, 1, 0, 3, 3], [], [], [28], [], [30], [], [32, 33, 31, 34, 35], [], [36, 37, 38, 39, 40, 41, 42, 43, 44, 45], []].getD i []
theorem e_proofmarklaw10_RvDecodes : compF Tryd.prog (fun _ => false) d_proofmarklaw10_RvDecodes 3 = some proofmarklaw10_RvDecodes := by kernel_rfl
theorem b_proofmarklaw10_RvDecodes : bodied Tryd.prog 3 = true := by kernel_rfl
def d_proofmarklaw10_RvEncodes : Nat → List Nat := fun i => [[], [], [10, 11, 9, 12, 13], [], [15, 16, 17, 14, 18, 19], [], [20, 21, 22, 23, 24, 25, 26], [], [], [], [28], [], [30, 31, 32, 33, 34], [], [36, 37, 35, 38, 39], [], [40, 41, 42, 43, 44, 45, 46, 47, 48, 49], []].getD i []
theorem e_proofmarklaw10_RvEncodes : compF Tryd.prog (fun _ => false) d_proofmarklaw10_RvEncodes 4 = some proofmarklaw10_RvEncodes := by kernel_rfl
theorem b_proofmarklaw10_RvEncodes : bodied Tryd.prog 4 = true := by kernel_rfl
def d_proofmarklaw10_RvUnlike : Nat → List Nat := fun i => [[], [], [14, 15, 13, 16, 17], [], [19, 20, 18, 21, 22], [], [23, 24, 25, 26, 27, 28, 29, 30, 31, 32, 33, 34, 35, 36, 37, 38, 39, 40, 41, 42, 43, 44, 45, 46, 47], [3, 3, 3, 3, 3, 3, 3, 3, 3, 3, 0, 0, 3, 3, 3, 0, 1, 0, 1, 3, 0, 0, 3, 3, 3, 3], [], [], [49], [], [52, 53, 54, 55, 56, 57, 51, 58, 59], [], [60, 61, 62, 63, 64, 65, 66, 67, 68, 69, 70, 71, 72], [3, 3, 3, 0, 0, 3, 3, 0, 1, 0, 2, 3, 3, 3], [], [], [74], []].getD i []
theorem e_proofmarklaw10_RvUnlike : compF Tryd.prog (fun _ => false) d_proofmarklaw10_RvUnlike 5 = some proofmarklaw10_RvUnlike := by kernel_rfl
theorem b_proofmarklaw10_RvUnlike : bodied Tryd.prog 5 = true := by kernel_rfl
def d_proofmarklaw10_RvKnown : Nat → List Nat := fun i => [[], [], [15], [], [16], [], [], [], [17, 18, 19], [], [21, 22], [], [24, 25, 26, 27, 28, 23, 29, 30], [], [31, 32, 33, 34, 35, 36, 37, 38, 39, 40, 41, 42, 43, 44, 45, 46, 47, 48, 49, 50, 51, 52, 53, 54, 55, 56, 57, 58], [3, 3, 3, 3, 3, 0, 3, 3, 3, 3, 3, 3, 0, 1, 3, 3, 3, 0, 3, 3, 3, 3, 3, 3, 3, 0, 2, 3, 3], [], [], [], [], [60], [], [62, 63], [], [], [], [], [], [68, 69], [], [70, 71, 72, 73, 74, 75, 76, 77, 78, 79, 80, 81, 82, 83, 84], [], [], [], [85], [], [87, 88], [], [89], [], [90, 91], [], [93], [], [94, 95], [], [97], [], [98, 99], [], [101], [], [102, 103, 104, 105, 106, 107, 108], [], [], [], [111, 112, 110, 113, 114], [], [], [], [115, 116, 117, 118, 119, 120, 121, 122, 123], [], [125, 126], [], [127, 128, 129, 130, 131], [], [], [], [133], [], [134, 135, 136, 137, 138, 139, 140, 141, 142, 143, 144, 145, 146, 147, 148, 149, 150, 151], [], [], [], [153, 154, 155, 156, 157, 158, 159, 160, 161, 162, 163, 164, 165, 166, 167, 168, 169], []].getD i []
theorem e_proofmarklaw10_RvKnown : compF Tryd.prog (fun _ => false) d_proofmarklaw10_RvKnown 6 = some proofmarklaw10_RvKnown := by kernel_rfl
theorem b_proofmarklaw10_RvKnown : bodied Tryd.prog 6 = true := by kernel_rfl
def d_rv_Decode : Nat → List Nat := fun i => [[], [], [10], [], [11, 12, 13], [], [14], [], [16], [], [17, 18, 19], [], [20, 21, 22, 23, 24, 25, 26], [], [27, 28, 29, 30, 31, 32, 33, 34, 35, 36, 37, 38, 39, 40, 41, 42, 43, 44], [], [], [], [49, 50], [], [51], [], [53, 54, 55, 56, 57, 58, 59, 60], [3, 0, 3, 0, 0, 1, 3, 3, 2], [61], [], [62], []].getD i []
theorem e_rv_Decode : compF Tryd.prog (fun d => List.contains [45] d) d_rv_Decode 7 = some rv_Decode := by kernel_rfl
theorem b_rv_Decode : bodied Tryd.prog 7 = true := by kernel_rfl
def d_proofmarkref10_Decode : Nat → List Nat := fun i => [[], [], [10], [], [], [], [11, 12, 13], [], [15, 16], [], [17, 18, 19, 20, 21, 22], [], [24, 25, 26, 27, 28, 29, 30, 31, 32, 33, 34], [], [36, 37, 38, 39, 40, 41, 35, 42, 43, 44], [], [], [], [46, 47, 48, 49], [], [], [], [51, 52, 53, 54], [], [], [], [56, 57, 58, 59], [], [60], [], [61], []].getD i []
theorem e_proofmarkref10_Decode : compF Tryd.prog (fun _ => false) d_proofmarkref10_Decode 8 = some proofmarkref10_Decode := by kernel_rfl
theorem b_proofmarkref10_Decode : bodied Tryd.prog 8 = true := by kernel_rfl
def d_proofmarklaw10_plain : Nat → List Nat := fun i => [[], [], [3, 4, 5, 6, 7, 8, 9, 10, 11, 12, 13], []].getD i []
theorem e_proofmarklaw10_plain : compF Tryd.prog (fun _ => false) d_proofmarklaw10_plain 9 = some proofmarklaw10_plain := by kernel_rfl
theorem b_proofmarklaw10_plain : bodied Tryd.prog 9 = true := by kernel_rfl
def d_proofmarklaw10_works : Nat → List Nat := fun i => [[], [], [8, 7, 9, 10], [], [12, 13, 11, 14, 15], [], [17, 16, 18, 19, 5], [], [20, 21, 22, 23, 24, 25, 26, 27, 28, 29, 30, 31, 32, 33, 34, 35, 36, 37, 38, 39, 40, 41, 42, 43, 44, 45, 46, 47, 48, 49, 50, 51, 52, 53], []].getD i []
theorem e_proofmarklaw10_works : compF Tryd.prog (fun _ => false) d_proofmarklaw10_works 10 = some proofmarklaw10_works := by kernel_rfl
theorem b_proofmarklaw10_works : bodied Tryd.prog 10 = true := by kernel_rfl
def d_rv_Encode : Nat → List Nat := fun i => [[], [], [8, 9, 10, 7, 11, 12], [], [], [], [13, 14, 15, 16, 17, 18, 19, 20, 21, 22, 23, 24, 25, 26, 27, 28, 29, 30, 31, 32, 33, 34, 35, 36, 37, 38, 39, 40, 41, 42, 43, 44, 45, 46, 47, 48, 49, 50, 51, 52, 53, 54, 55], [], [], [], [57, 58, 59, 60, 61], [], [], [], [63, 64, 65, 66, 67, 68, 69, 70, 71, 72, 73, 74, 75, 76, 77, 78, 79, 80, 81, 82, 83, 84, 85, 86, 87, 88, 89], [3, 0, 3, 0, 3, 3, 0, 3, 3, 0, 3, 3, 0, 3, 3, 0, 3, 3, 0, 3, 3, 0, 3, 0, 1, 2, 2, 3, 3]].getD i []
theorem e_rv_Encode : compF Tryd.prog (fun _ => false) d_rv_Encode 11 = some rv_Encode := by kernel_rfl
theorem b_rv_Encode : bodied Tryd.prog 11 = true := by kernel_rfl
def d_proofmarkref10_Encode : Nat → List Nat := fun i => [[], [], [11, 12, 13], [], [15, 16, 17, 14, 18, 19, 20], [], [21, 22, 23, 24, 25, 26, 27, 28], [], [29, 30, 31, 32, 33, 34, 35, 36, 37, 38, 39, 40, 41, 42, 43, 44, 45, 46, 47, 48, 49, 50, 51, 52, 53, 54, 55, 56, 57, 58, 59, 60, 61, 62, 63, 64, 65, 66, 67, 68, 69, 70, 71, 72, 73, 74, 75, 76, 77, 78, 79, 80], [], [], [], [82, 83, 84, 85, 86], [], [], [], [88, 89], [], [], [], [91, 92, 93, 94, 95, 96, 97, 98, 99, 100, 101, 102, 103, 104, 105, 106, 107, 108, 109, 110, 111, 112, 113, 114, 115], [], [116, 117, 118], [], [119], [], [122], [], [123], [], [124], [], [125, 126, 127, 128], [], [130], [], [131, 132, 133, 134, 135, 136, 137, 138, 139], [], [141], [], [142, 143, 144, 145, 146, 147, 148, 149, 150, 151, 152, 153, 154, 155, 156, 157, 158], [], [160], [], [161, 162, 163], [], [165], [], [166, 167, 168, 169, 170, 171, 172, 173, 174, 175, 176, 177, 178, 179, 180, 181, 182], [], [183], []].getD i []
theorem e_proofmarkref10_Encode : compF Tryd.prog (fun _ => false) d_proofmarkref10_Encode 12 = some proofmarkref10_Encode := by kernel_rfl
theorem b_proofmarkref10_Encode : bodied Tryd.prog 12 = true := by kernel_rfl
def d_rv_Text : Nat → List Nat := fun i => [[], [], [10, 11, 9, 12, 13, 3], [], [14], [], [], [], [17, 18, 19, 16, 20, 21, 6], [], [], [], [22], [], [23, 24, 25, 26, 27, 28, 29], [], [30, 31, 32, 33, 34, 35, 36], [], [37, 38, 39, 40, 41, 42, 43], [], [44, 45, 46, 47], [], [49, 50, 51, 52, 53, 54], [0, 3, 0, 1, 1, 2, 2], [55, 56, 57, 58, 59, 60, 61], [3, 0, 3, 0, 1, 3, 2, 3]].getD i []
theorem e_rv_Text : compF Tryd.prog (fun _ => false) d_rv_Text 13 = some rv_Text := by kernel_rfl
theorem b_rv_Text : bodied Tryd.prog 13 = true := by kernel_rfl
def d_proofmarklaw10_RvTells : Nat → List Nat := fun i => [[], [], [11, 12, 10, 13, 14], [], [16, 17, 18, 15, 19, 20], [], [], [], [21], [], [23, 24], [], [25, 26], [], [27, 28, 29, 30, 31], [], [], [], [], [], [33, 34, 35], [], [37, 38], [], [39, 40, 41], [], [42, 43, 44, 45, 46, 47, 48, 49, 50, 51, 52, 53, 54, 55, 56, 57, 58, 59, 60, 61, 62, 63, 64, 65, 66, 67, 68, 69], [3, 3, 3, 3, 3, 3, 3, 3, 3, 3, 0, 1, 3, 0, 2, 3, 3, 3, 0, 1, 0, 2, 2, 3, 3, 3, 2, 3, 3]].getD i []
theorem e_proofmarklaw10_RvTells : compF Tryd.prog (fun _ => false) d_proofmarklaw10_RvTells 14 = some proofmarklaw10_RvTells := by kernel_rfl
theorem b_proofmarklaw10_RvTells : bodied Tryd.prog 14 = true := by kernel_rfl
def d_rv_Name : Nat → List Nat := fun i => [[], [], [6, 7, 5, 8, 9, 4], [], [10, 11], []].getD i []
theorem e_rv_Name : compF Tryd.prog (fun _ => false) d_rv_Name 15 = some rv_Name := by kernel_rfl
theorem b_rv_Name : bodied Tryd.prog 15 = true := by kernel_rfl
def d_rv_table : Nat → List Nat := fun i => [[], [], [10], [], [11, 12, 13], [], [14, 15, 16], [], [17, 18, 19], [], [20, 21, 22, 23], [], [24, 25, 26, 27, 28, 29], [], [30, 31, 32], [], [33, 34, 35, 36, 37, 38], [], [39], [], [40, 41, 42, 43, 44, 45, 46, 47, 48, 49, 50, 51, 52, 53, 54, 55, 56, 57, 58, 59, 60, 61, 62, 63, 64, 65, 66, 67, 68, 69, 70, 71, 72, 73, 74, 75, 76, 77, 78, 79, 80, 81, 82, 83, 84, 85, 86, 87, 88, 89, 90, 91, 92, 93, 94, 95, 96, 97, 98, 99, 100, 101, 102, 103, 104, 105, 106, 107, 108, 109, 110, 111, 112, 113, 114, 115, 116, 117, 118, 119, 120, 121, 122, 123, 124, 125, 126, 127, 128, 129, 130, 131, 132, 133, 134, 135, 136, 137, 138, 139, 140, 141, 142, 143, 144, 145, 146, 147, 148, 149, 150, 151, 152, 153, 154, 155, 156, 157, 158, 159, 160, 161, 162, 163, 164, 165, 166, 167, 168, 169, 170], [0, 1, 0, 1, 0, 1, 0, 1, 0, 1, 0, 1, 0, 1, 0, 1, 0, 1, 0, 1, 0, 1, 0, 1, 0, 1, 0, 1, 0, 1, 0, 1, 0, 1, 0, 1, 0, 1, 0, 1, 0, 1, 0, 1, 0, 1, 0, 1, 0, 1, 0, 1, 0, 1, 0, 1, 0, 1, 0, 1, 0, 1, 0, 1, 0, 1, 0, 1, 0, 1, 0, 1, 0, 1, 0, 1, 0, 1, 0, 1, 0, 1, 0, 1, 0, 1, 0, 1, 0, 1, 0, 1, 0, 1, 0, 1, 0, 1, 0, 1, 0, 1, 0, 1, 0, 1, 0, 1, 0, 1, 0, 1, 0, 1, 0, 1, 0, 1, 0, 1, 0, 1, 0, 1, 0, 1, 0, 1, 0, 2, 3, 2]].getD i []
theorem e_rv_table : compF Tryd.prog (fun _ => false) d_rv_table 16 = some rv_table := by kernel_rfl
theorem b_rv_table : bodied Tryd.prog 16 = true := by kernel_rfl
def d_slices_IndexFunc_rv_row_rv_row : Nat → List Nat := fun i => [[], [], [6], [], [], [], [10], [], [11, 12, 13, 14, 15], [], [17], [], [18], [], [], []].getD i []
theorem e_slices_IndexFunc_rv_row_rv_row : compF Tryd.prog (fun _ => false) d_slices_IndexFunc_rv_row_rv_row 17 = some slices_IndexFunc_rv_row_rv_row := by kernel_rfl
theorem b_slices_IndexFunc_rv_row_rv_row : bodied Tryd.prog 17 = true := by kernel_rfl
def d_rv_Decode_S1 : Nat → List Nat := fun i => [[], [], [4, 5, 6, 7, 8, 9, 10, 11, 12, 13, 14, 15, 16, 17], []].getD i []
theorem e_rv_Decode_S1 : compF Tryd.prog (fun _ => false) d_rv_Decode_S1 18 = some rv_Decode_S1 := by kernel_rfl
theorem b_rv_Decode_S1 : bodied Tryd.prog 18 = true := by kernel_rfl
def d_rv_form_number : Nat → List Nat := fun i => [[], [], [], [], [8], [], [], [], [13, 14], [], [15, 16, 17, 18, 19, 20, 21, 22, 23], [3, 3, 0, 3, 0, 3, 1, 3, 3, 3], [24], [], [25, 26, 27, 28], [], [29], [], [31, 32, 33, 34, 35, 36, 37, 38, 39], [3, 0, 1, 3, 3, 0, 2, 3, 3, 3], [40], []].getD i []
theorem e_rv_form_number : compF Tryd.prog (fun _ => false) d_rv_form_number 19 = some rv_form_number := by kernel_rfl
theorem b_rv_form_number : bodied Tryd.prog 19 = true := by kernel_rfl
def d_rv_bits_of : Nat → List Nat := fun i => [[], [], [5, 6, 7, 8, 9, 10, 11, 12, 13], [3, 3, 0, 3, 3, 0, 3, 3, 3, 3]].getD i []
theorem e_rv_bits_of : compF Tryd.prog (fun _ => false) d_rv_bits_of 20 = some rv_bits_of := by kernel_rfl
theorem b_rv_bits_of : bodied Tryd.prog 20 = true := by kernel_rfl
def d_proofmarkref10_rows : Nat → List Nat := fun i => [[], [], [1, 2, 3, 4, 5, 6, 7, 8, 9, 10, 11, 12, 13, 14, 15, 16, 17, 18, 19, 20, 21, 22, 23, 24, 25, 26, 27, 28, 29, 30, 31, 32, 33, 34, 35, 36, 37, 38, 39, 40, 41, 42, 43, 44, 45, 46, 47, 48, 49, 50, 51, 52, 53, 54, 55, 56, 57, 58, 59, 60, 61, 62, 63, 64, 65, 66], []].getD i []
theorem e_proofmarkref10_rows : compF Tryd.prog (fun _ => false) d_proofmarkref10_rows 21 = some proofmarkref10_rows := by kernel_rfl
theorem b_proofmarkref10_rows : bodied Tryd.prog 21 = true := by kernel_rfl
def d_proofmarkref10_is : Nat → List Nat := fun i => [[], [], [5], [], [8], [], [9, 10, 11, 12, 13, 14, 15, 16, 17, 18, 19, 20, 21, 22, 23, 24, 25, 26], [], [28], [], [29], [], [30, 31, 32, 33, 34], [3, 1, 3, 0, 3, 3], [36], [], [37, 38, 39, 40, 41, 42, 43, 44, 45, 46, 47, 48, 49, 50, 51, 52, 53, 54, 55, 56], [3, 1, 3, 0, 3, 3, 3, 1, 3, 0, 3, 3, 3, 3, 1, 3, 0, 3, 3, 3, 3], [58], [], [59], [], [60, 61, 62, 63, 64, 65, 66, 67, 68, 69, 70, 71, 72, 73, 74, 75, 76, 77, 78], [3, 1, 3, 0, 3, 3, 3, 1, 3, 0, 3, 3, 3, 3, 1, 3, 0, 3, 3, 3], [79, 80, 81, 82, 83, 84, 85, 86, 87, 88, 89, 90], [3, 1, 3, 0, 3, 3, 3, 1, 3, 0, 3, 3, 3]].getD i []
theorem e_proofmarkref10_is : compF Tryd.prog (fun _ => false) d_proofmarkref10_is 22 = some proofmarkref10_is := by kernel_rfl
theorem b_proofmarkref10_is : bodied Tryd.prog 22 = true := by kernel_rfl
def d_proofmarkref10_number : Nat → List Nat := fun i => [[], [], [], [], [7], [], [8, 9, 10, 11], [], [13], [], [14, 15, 16], [], [18], [], [19, 20, 21], [], [23], [], [24, 25, 26, 27, 28, 29, 30, 31], [], [33], [], [34, 35, 36, 37, 38, 39, 40, 41, 42, 43, 44, 45, 46, 47, 48, 49, 50], [], [52], [], [53, 54, 55, 56, 57], [], [59], [], [60, 61, 62, 63, 64, 65, 66, 67, 68, 69, 70, 71, 72, 73, 74, 75, 76], [], [], []].getD i []
theorem e_proofmarkref10_number : compF Tryd.prog (fun _ => false) d_proofmarkref10_number 23 = some proofmarkref10_number := by kernel_rfl
theorem b_proofmarkref10_number : bodied Tryd.prog 23 = true := by kernel_rfl
def d_proofmarkref10_has : Nat → List Nat := fun i => [[], [], [], [], [7], [], [], [], [9], [], [10], [], [11], [], [], [], [13], [], [14], [], [], [], [16], [], [17], [], [], [], [], []].getD i []
theorem e_proofmarkref10_has : compF Tryd.prog (fun _ => false) d_proofmarkref10_has 24 = some proofmarkref10_has := by kernel_rfl
theorem b_proofmarkref10_has : bodied Tryd.prog 24 = true := by kernel_rfl
def d_proofmarkref10_field : Nat → List Nat := fun i => [[], [], [7, 8, 9, 10, 11, 12, 13], [3, 3, 3, 3, 3, 3, 3, 3]].getD i []
theorem e_proofmarkref10_field : compF Tryd.prog (fun _ => false) d_proofmarkref10_field 25 = some proofmarkref10_field := by kernel_rfl
theorem b_proofmarkref10_field : bodied Tryd.prog 25 = true := by kernel_rfl
def d_rv_of : Nat → List Nat := fun i => [[], [], [5], [], [6, 7, 8, 9, 10, 11], [], [13], [], [14, 15, 16], []].getD i []
theorem e_rv_of : compF Tryd.prog (fun _ => false) d_rv_of 26 = some rv_of := by kernel_rfl
theorem b_rv_of : bodied Tryd.prog 26 = true := by kernel_rfl
def d_rv_Encode_S1 : Nat → List Nat := fun i => [[], [], [5, 6, 7, 8, 9, 10, 11, 12, 13], []].getD i []
theorem e_rv_Encode_S1 : compF Tryd.prog (fun _ => false) d_rv_Encode_S1 27 = some rv_Encode_S1 := by kernel_rfl
theorem b_rv_Encode_S1 : bodied Tryd.prog 27 = true := by kernel_rfl
def d_rv_form_fits : Nat → List Nat := fun i => [[], [], [7, 8, 9], [0, 2, 3, 3, 3], [10], [], [12, 13, 14, 15, 16], [], [17, 18, 19, 20, 21, 22, 23, 24, 25, 26, 27, 28, 29, 30, 31, 32, 33], []].getD i []
theorem e_rv_form_fits : compF Tryd.prog (fun _ => false) d_rv_form_fits 28 = some rv_form_fits := by kernel_rfl
theorem b_rv_form_fits : bodied Tryd.prog 28 = true := by kernel_rfl
def d_rv_together : Nat → List Nat := fun i => [[], [], [], [], [], [], [], [], [10, 11], [], [12, 13, 14], [], [15], [], [16], []].getD i []
theorem e_rv_together : compF Tryd.prog (fun _ => false) d_rv_together 29 = some rv_together := by kernel_rfl
theorem b_rv_together : bodied Tryd.prog 29 = true := by kernel_rfl
def d_rv_form_spread : Nat → List Nat := fun i => [[], [], [], [], [8, 9, 10, 11], [], [12, 13], [], [], [], [17, 18, 19, 20, 21, 22, 23, 24, 25, 26, 27, 28], [0, 0, 3, 0, 3, 3, 3, 3, 3, 0, 3, 3, 2], [29, 30, 31, 32], [], [33], []].getD i []
theorem e_rv_form_spread : compF Tryd.prog (fun _ => false) d_rv_form_spread 30 = some rv_form_spread := by kernel_rfl
theorem b_rv_form_spread : bodied Tryd.prog 30 = true := by kernel_rfl
theorem g_rv_form_spread_0a : (rngOf Tryd.prog 30 0).map (fun r => (compC Tryd.prog 34 (fun _ => false) d_rv_form_spread (rngA r), calm (rngA r))) = some (some rv_form_spread_g0a, true) := by kernel_rfl
theorem g_rv_form_spread_0b : (rngOf Tryd.prog 30 0).map (fun r => (compC Tryd.prog 34 (fun _ => false) d_rv_form_spread (rngB r), calm (rngB r))) = some (some rv_form_spread_g0b, true) := by kernel_rfl
def d_proofmarkref10_row : Nat → List Nat := fun i => [[], [], [4], [], [5, 6, 7, 8, 9, 10, 11, 12], [], [14], [], [15, 16, 17, 18, 19], []].getD i []
theorem e_proofmarkref10_row : compF Tryd.prog (fun _ => false) d_proofmarkref10_row 31 = some proofmarkref10_row := by kernel_rfl
theorem b_proofmarkref10_row : bodied Tryd.prog 31 = true := by kernel_rfl
def d_proofmarkref10_room : Nat → List Nat := fun i => [[], [], [], [], [7], [], [8], [], [9, 10, 11, 12, 13, 14], [], [16], [], [17, 18, 19, 20, 21, 22], [], [24], [], [25, 26, 27, 28, 29, 30], [], [32], [], [33, 34, 35, 36, 37, 38, 39, 40, 41, 42, 43], [], [45], [], [46, 47, 48, 49, 50, 51, 52, 53, 54, 55, 56], [], [58], [], [59, 60, 61, 62, 63, 64, 65, 66, 67, 68, 69], [], [70, 71], []].getD i []
theorem e_proofmarkref10_room : compF Tryd.prog (fun _ => false) d_proofmarkref10_room 32 = some proofmarkref10_room := by kernel_rfl
theorem b_proofmarkref10_room : bodied Tryd.prog 32 = true := by kernel_rfl
def d_rv_Text_S1 : Nat → List Nat := fun i => [[], [], [6, 7, 8, 9, 10, 11, 12], [0, 3, 3, 1, 3, 1, 2, 2]].getD i []
theorem e_rv_Text_S1 : compF Tryd.prog (fun _ => false) d_rv_Text_S1 33 = some rv_Text_S1 := by kernel_rfl
theorem b_rv_Text_S1 : bodied Tryd.prog 33 = true := by kernel_rfl
def d_strconv_Itoa : Nat → List Nat := fun i => [[], [], [3, 4], []].getD i []
theorem e_strconv_Itoa : compF Tryd.prog (fun _ => false) d_strconv_Itoa 34 = some strconv_Itoa := by kernel_rfl
theorem b_strconv_Itoa : bodied Tryd.prog 34 = true := by kernel_rfl
def d_strconv_FormatInt : Nat → List Nat := fun i => [[], [], [5, 6, 7], []].getD i []
theorem e_strconv_FormatInt : compF Tryd.prog (fun _ => false) d_strconv_FormatInt 35 = some strconv_FormatInt := by kernel_rfl
theorem b_strconv_FormatInt : bodied Tryd.prog 35 = true := by kernel_rfl
def d_strings_TrimSuffix : Nat → List Nat := fun i => [[], [], [5, 6, 7], []].getD i []
theorem e_strings_TrimSuffix : compF Tryd.prog (fun _ => false) d_strings_TrimSuffix 36 = some strings_TrimSuffix := by kernel_rfl
theorem b_strings_TrimSuffix : bodied Tryd.prog 36 = true := by kernel_rfl
def d_strings_Join : Nat → List Nat := fun i => [[], [], [11], [], [14], [], [], [], [16], [], [17, 18, 19], [], [], [], [20, 21], [], [23, 24, 25, 26, 27, 28], [], [30], [], [31, 32, 33, 34, 35, 36, 37, 38], [], [], [], [], [], [43, 44], [], [45, 46, 47, 48], [], [50], [], [51, 52, 53, 54], [], [55], [], [], [], [56, 57], [], [58, 59, 60, 61], [], [62], [], [], [], [67, 68], [], [69, 70], [], [71, 72], [], [73], [], [74], []].getD i []
theorem e_strings_Join : compF Tryd.prog (fun _ => false) d_strings_Join 37 = some strings_Join := by kernel_rfl
theorem b_strings_Join : bodied Tryd.prog 37 = true := by kernel_rfl
def d_rv_Writes : Nat → List Nat := fun i => [[], [], [9, 10, 8, 11, 12, 4], [], [14, 15, 16, 13, 17, 18, 7], [], [19, 20, 21, 22, 23, 24, 25, 26, 27, 28, 29, 30], [], [], [], [32, 33], []].getD i []
theorem e_rv_Writes : compF Tryd.prog (fun _ => false) d_rv_Writes 38 = some rv_Writes := by kernel_rfl
theorem b_rv_Writes : bodied Tryd.prog 38 = true := by kernel_rfl
def d_proofmarkref10_Writes : Nat → List Nat := fun i => [[], [], [10, 11, 9, 12, 13, 4], [], [15, 16, 17, 18, 19, 14, 20, 21, 22, 7, 8], [], [23, 24, 25, 26, 27, 28, 29, 30, 31, 32], [], [], [], [34, 35], []].getD i []
theorem e_proofmarkref10_Writes : compF Tryd.prog (fun _ => false) d_proofmarkref10_Writes 39 = some proofmarkref10_Writes := by kernel_rfl
theorem b_proofmarkref10_Writes : bodied Tryd.prog 39 = true := by kernel_rfl
def d_rv_Reads : Nat → List Nat := fun i => [[], [], [7, 8, 6, 9, 10, 3], [], [11], [], [], [], [13, 14, 15, 16, 17], [], [18, 19], [], [20, 21], [], [22, 23], []].getD i []
theorem e_rv_Reads : compF Tryd.prog (fun d => List.contains [17, 19, 21, 23] d) d_rv_Reads 40 = some rv_Reads := by kernel_rfl
theorem b_rv_Reads : bodied Tryd.prog 40 = true := by kernel_rfl
def d_proofmarklaw10_same : Nat → List Nat := fun i => [[], [], [6, 7, 8, 9], [], [], [], [], [], [11, 12, 13], [], [15, 16], [], [17, 18, 19, 20, 21, 22, 23, 24], [3, 3, 3, 0, 3, 3, 3, 0, 3], [], [], [], []].getD i []
theorem e_proofmarklaw10_same : compF Tryd.prog (fun _ => false) d_proofmarklaw10_same 41 = some proofmarklaw10_same := by kernel_rfl
theorem b_proofmarklaw10_same : bodied Tryd.prog 41 = true := by kernel_rfl
def d_proofmarkref10_Reads : Nat → List Nat := fun i => [[], [], [9, 10, 8, 11, 12, 3], [], [13], [], [], [], [15, 16, 17, 18, 19, 20, 21, 22, 23, 24], [3, 0, 3, 0, 3, 3, 0, 3, 0, 3, 3, 3], [], [], [25], [], [27, 28, 29, 30], [], [31, 32], [], [34, 35, 36, 37], [], [38], []].getD i []
theorem e_proofmarkref10_Reads : compF Tryd.prog (fun _ => false) d_proofmarkref10_Reads 42 = some proofmarkref10_Reads := by kernel_rfl
theorem b_proofmarkref10_Reads : bodied Tryd.prog 42 = true := by kernel_rfl
def d_proofmarkref10_Name : Nat → List Nat := fun i => [[], [], [3, 4, 5], []].getD i []
theorem e_proofmarkref10_Name : compF Tryd.prog (fun _ => false) d_proofmarkref10_Name 43 = some proofmarkref10_Name := by kernel_rfl
theorem b_proofmarkref10_Name : bodied Tryd.prog 43 = true := by kernel_rfl
def d_proofmarkref10_Text : Nat → List Nat := fun i => [[], [], [11, 12, 10, 13, 14, 3], [], [15], [], [], [], [17, 18, 19], [], [21, 22, 23, 20, 24, 25, 26], [], [], [], [], [], [28, 29, 30, 31, 32, 33, 34], [], [], [], [36, 37, 38, 39, 40, 41, 42], [], [], [], [44, 45, 46, 47, 48, 49, 50], [], [51, 52, 53, 54, 55, 56, 57], [], [59, 60, 61, 62, 63, 64], [], [65], [], [67, 68], [], [69, 70, 71, 72, 73], [3, 0, 3, 3, 3, 3]].getD i []
theorem e_proofmarkref10_Text : compF Tryd.prog (fun _ => false) d_proofmarkref10_Text 44 = some proofmarkref10_Text := by kernel_rfl
theorem b_proofmarkref10_Text : bodied Tryd.prog 44 = true := by kernel_rfl
def d_rv_tells : Nat → List Nat := fun i => [[], [], [11, 12, 13, 14, 15, 16, 17, 18, 19, 20, 21, 22, 23, 24], [0, 3, 3, 3, 3, 0, 3, 3, 3, 0, 3, 1, 1, 3, 2]].getD i []
theorem e_rv_tells : compF Tryd.prog (fun _ => false) d_rv_tells 45 = some rv_tells := by kernel_rfl
theorem b_rv_tells : bodied Tryd.prog 45 = true := by kernel_rfl
def d_rv_form_width : Nat → List Nat := fun i => [[], [], [6, 7], [], [8], [], [], [], [13, 14], [], [15, 16, 17, 18], [], [19], [], [20], []].getD i []
theorem e_rv_form_width : compF Tryd.prog (fun _ => false) d_rv_form_width 46 = some rv_form_width := by kernel_rfl
theorem b_rv_form_width : bodied Tryd.prog 46 = true := by kernel_rfl
def d_proofmarkref10_signed : Nat → List Nat := fun i => [[], [], [5, 6, 7, 8], [], [10, 11, 12, 13], [], [14], []].getD i []
theorem e_proofmarkref10_signed : compF Tryd.prog (fun _ => false) d_proofmarkref10_signed 47 = some proofmarkref10_signed := by kernel_rfl
theorem b_proofmarkref10_signed : bodied Tryd.prog 47 = true := by kernel_rfl
def d_slices_Sort_uint8_uint8 : Nat → List Nat := fun i => [[3, 4], [], [5, 6, 7, 8, 9, 10], []].getD i []
theorem e_slices_Sort_uint8_uint8 : compF Tryd.prog (fun d => List.contains [10] d) d_slices_Sort_uint8_uint8 55 = some slices_Sort_uint8_uint8 := by kernel_rfl
theorem b_slices_Sort_uint8_uint8 : bodied Tryd.prog 55 = true := by kernel_rfl
def d_slices_Compact_uint8_uint8 : Nat → List Nat := fun i => [[], [], [6, 7], [], [9], [], [], [], [10, 11, 12], [], [14, 15], [], [16, 17, 18, 19, 20, 21, 22, 23, 24], [3, 3, 3, 0, 3, 3, 3, 3, 0, 3], [26, 27, 28], [], [], [], [29, 30, 31], [], [33, 34], [], [35, 36, 37, 38, 39, 40, 41, 42, 43], [3, 3, 3, 0, 3, 3, 3, 3, 0, 3], [45, 46, 47, 48, 49, 50, 51], [], [52, 53], [], [54, 55, 56], [], [57, 58, 59], [], [60], []].getD i []
theorem e_slices_Compact_uint8_uint8 : compF Tryd.prog (fun _ => false) d_slices_Compact_uint8_uint8 56 = some slices_Compact_uint8_uint8 := by kernel_rfl
theorem b_slices_Compact_uint8_uint8 : bodied Tryd.prog 56 = true := by kernel_rfl
def d_slices_DeleteFunc_uint8_uint8 : Nat → List Nat := fun i => [[], [], [8, 9, 10], [], [11], [], [13], [], [14, 15], [], [16, 17, 18], [], [20, 21], [], [22, 23, 24, 25], [], [26, 27, 28], [], [30, 31, 32, 33], [], [34, 35], [], [36, 37, 38], [], [39, 40, 41], []].getD i []
theorem e_slices_DeleteFunc_uint8_uint8 : compF Tryd.prog (fun _ => false) d_slices_DeleteFunc_uint8_uint8 57 = some slices_DeleteFunc_uint8_uint8 := by kernel_rfl
theorem b_slices_DeleteFunc_uint8_uint8 : bodied Tryd.prog 57 = true := by kernel_rfl
def d_rv_Reads_S1 : Nat → List Nat := fun i => [[], [], [3, 4], []].getD i []
theorem e_rv_Reads_S1 : compF Tryd.prog (fun _ => false) d_rv_Reads_S1 58 = some rv_Reads_S1 := by kernel_rfl
theorem b_rv_Reads_S1 : bodied Tryd.prog 58 = true := by kernel_rfl
def d_proofmarkref10_digits : Nat → List Nat := fun i => [[], [], [5], [], [7, 8, 9, 10], [], [], [], [11, 12, 13, 14, 15], [], [17, 18], [], [19, 20, 21, 22, 23, 24], [], [25, 26], [], [27], []].getD i []
theorem e_proofmarkref10_digits : compF Tryd.prog (fun _ => false) d_proofmarkref10_digits 59 = some proofmarkref10_digits := by kernel_rfl
theorem b_proofmarkref10_digits : bodied Tryd.prog 59 = true := by kernel_rfl
def d_slices_pdqsortOrdered_uint8 : Nat → List Nat := fun i => [[], [], [], [], [19, 20, 21], [], [22], [], [24, 25, 26, 27], [], [28], [], [30, 31, 32, 33], [], [34], [], [36, 37, 38, 39], [], [40, 41], [], [43, 44, 45, 46, 42, 47, 48], [], [49], [], [51, 52, 53, 54], [], [55, 56, 57, 58, 59, 60], [], [], [], [61, 62, 63, 64, 65, 66, 67], [], [69, 70, 71], [], [73, 74, 75, 76, 77, 78, 79, 80, 81, 82, 83, 84, 85, 86], [3, 3, 3, 3, 3, 3, 3, 0, 3, 3, 3, 0, 2, 3, 3], [88, 89, 90, 91, 92], [], [93], [], [95, 96, 97, 98, 99, 94, 100, 101], [], [102], [], [103, 104, 105, 106, 107, 108], [], [109, 110], [], [111, 112], [], [114, 115, 116], [], [117, 118, 119, 120, 121], [], [122, 123], [], [124, 125, 126], [], [127, 128, 129, 130, 131, 132], [], [133], []].getD i []
theorem e_slices_pdqsortOrdered_uint8 : compF Tryd.prog (fun d => List.contains [27] d) d_slices_pdqsortOrdered_uint8 68 = some slices_pdqsortOrdered_uint8 := by kernel_rfl
theorem b_slices_pdqsortOrdered_uint8 : bodied Tryd.prog 68 = true := by kernel_rfl
def d_math_bits_Len : Nat → List Nat := fun i => [[], [], [3, 4, 5], [], [6, 7], []].getD i []
theorem e_math_bits_Len : compF Tryd.prog (fun _ => false) d_math_bits_Len 69 = some math_bits_Len := by kernel_rfl
theorem b_math_bits_Len : bodied Tryd.prog 69 = true := by kernel_rfl
def d_slices_IndexFunc_uint8_uint8 : Nat → List Nat := fun i => [[], [], [6], [], [], [], [10], [], [11, 12, 13, 14, 15], [], [17], [], [18], [], [], []].getD i []
theorem e_slices_IndexFunc_uint8_uint8 : compF Tryd.prog (fun _ => false) d_slices_IndexFunc_uint8_uint8 70 = some slices_IndexFunc_uint8_uint8 := by kernel_rfl
theorem b_slices_IndexFunc_uint8_uint8 : bodied Tryd.prog 70 = true := by kernel_rfl
def d_math_bits_Len64 : Nat → List Nat := fun i => [[], [], [3], [], [5, 6], [], [], [], [7], [], [9, 10], [], [11, 12], [], [13], [], [15, 16], [], [17, 18], [], [19, 20, 21, 22, 23, 24], []].getD i []
theorem e_math_bits_Len64 : compF Tryd.prog (fun _ => false) d_math_bits_Len64 72 = some math_bits_Len64 := by kernel_rfl
theorem b_math_bits_Len64 : bodied Tryd.prog 72 = true := by kernel_rfl
def d_slices_insertionSortOrdered_uint8 : Nat → List Nat := fun i => [[8, 9], [], [10, 11], [], [13, 14], [], [15], [], [16, 17, 18, 19, 20, 21, 22, 23, 24, 25, 26, 27, 28, 29], [3, 3, 3, 3, 3, 3, 3, 0, 3, 3, 3, 3, 0, 2, 3], [31, 32], [], [33, 34, 35, 36, 37, 38, 39, 40, 41, 42, 43, 44, 45, 46, 47, 48], [3, 3, 3, 3, 3, 3, 3, 3, 3, 0, 3, 3, 3, 0, 3, 2, 3, 2]].getD i []
theorem e_slices_insertionSortOrdered_uint8 : compF Tryd.prog (fun _ => false) d_slices_insertionSortOrdered_uint8 78 = some slices_insertionSortOrdered_uint8 := by kernel_rfl
theorem b_slices_insertionSortOrdered_uint8 : bodied Tryd.prog 78 = true := by kernel_rfl
def d_cmp_Less_uint8 : Nat → List Nat := fun i => [[], [], [5, 6, 7, 8, 9, 10, 11, 12, 13, 14, 15, 16], []].getD i []
theorem e_cmp_Less_uint8 : compF Tryd.prog (fun _ => false) d_cmp_Less_uint8 84 = some cmp_Less_uint8 := by kernel_rfl
theorem b_cmp_Less_uint8 : bodied Tryd.prog 84 = true := by kernel_rfl
def d_math_bits_Len32 : Nat → List Nat := fun i => [[], [], [3], [], [5, 6], [], [], [], [7], [], [9, 10], [], [11, 12], [], [13, 14, 15, 16, 17, 18], []].getD i []
theorem e_math_bits_Len32 : compF Tryd.prog (fun _ => false) d_math_bits_Len32 87 = some math_bits_Len32 := by kernel_rfl
theorem b_math_bits_Len32 : bodied Tryd.prog 87 = true := by kernel_rfl
def d_cmp_isNaN_uint8 : Nat → List Nat := fun i => [[], [], [3, 4, 5], []].getD i []
theorem e_cmp_isNaN_uint8 : compF Tryd.prog (fun _ => false) d_cmp_isNaN_uint8 95 = some cmp_isNaN_uint8 := by kernel_rfl
theorem b_cmp_isNaN_uint8 : bodied Tryd.prog 95 = true := by kernel_rfl
theorem tab_ok : TabOk Tryd.prog tab := fun f A h => by
  unfold tab at h
  split at h
  · cases h; exact ⟨b_proofmarklaw10_RvDecodes, _, _, e_proofmarklaw10_RvDecodes⟩
  · cases h; exact ⟨b_proofmarklaw10_RvEncodes, _, _, e_proofmarklaw10_RvEncodes⟩
  · cases h; exact ⟨b_proofmarklaw10_RvUnlike, _, _, e_proofmarklaw10_RvUnlike⟩
  · cases h; exact ⟨b_proofmarklaw10_RvKnown, _, _, e_proofmarklaw10_RvKnown⟩
  · cases h; exact ⟨b_rv_Decode, _, _, e_rv_Decode⟩
  · cases h; exact ⟨b_proofmarkref10_Decode, _, _, e_proofmarkref10_Decode⟩
  · cases h; exact ⟨b_proofmarklaw10_plain, _, _, e_proofmarklaw10_plain⟩
  · cases h; exact ⟨b_proofmarklaw10_works, _, _, e_proofmarklaw10_works⟩
  · cases h; exact ⟨b_rv_Encode, _, _, e_rv_Encode⟩
  · cases h; exact ⟨b_proofmarkref10_Encode, _, _, e_proofmarkref10_Encode⟩
  · cases h; exact ⟨b_rv_Text, _, _, e_rv_Text⟩
  · cases h; exact ⟨b_proofmarklaw10_RvTells, _, _, e_proofmarklaw10_RvTells⟩
  · cases h; exact ⟨b_rv_Name, _, _, e_rv_Name⟩
  · cases h; exact ⟨b_rv_table, _, _, e_rv_table⟩
  · cases h; exact ⟨b_slices_IndexFunc_rv_row_rv_row, _, _, e_slices_IndexFunc_rv_row_rv_row⟩
  · cases h; exact ⟨b_rv_Decode_S1, _, _, e_rv_Decode_S1⟩
  · cases h; exact ⟨b_rv_form_number, _, _, e_rv_form_number⟩
  · cases h; exact ⟨b_rv_bits_of, _, _, e_rv_bits_of⟩
  · cases h; exact ⟨b_proofmarkref10_rows, _, _, e_proofmarkref10_rows⟩
  · cases h; exact ⟨b_proofmarkref10_is, _, _, e_proofmarkref10_is⟩
  · cases h; exact ⟨b_proofmarkref10_number, _, _, e_proofmarkref10_number⟩
  · cases h; exact ⟨b_proofmarkref10_has, _, _, e_proofmarkref10_has⟩
  · cases h; exact ⟨b_proofmarkref10_field, _, _, e_proofmarkref10_field⟩
  · cases h; exact ⟨b_rv_of, _, _, e_rv_of⟩
  · cases h; exact ⟨b_rv_Encode_S1, _, _, e_rv_Encode_S1⟩
  · cases h; exact ⟨b_rv_form_fits, _, _, e_rv_form_fits⟩
  · cases h; exact ⟨b_rv_together, _, _, e_rv_together⟩
  · cases h; exact ⟨b_rv_form_spread, _, _, e_rv_form_spread⟩
  · cases h; exact ⟨b_proofmarkref10_row, _, _, e_proofmarkref10_row⟩
  · cases h; exact ⟨b_proofmarkref10_room, _, _, e_proofmarkref10_room⟩
  · cases h; exact ⟨b_rv_Text_S1, _, _, e_rv_Text_S1⟩
  · cases h; exact ⟨b_strconv_Itoa, _, _, e_strconv_Itoa⟩
  · cases h; exact ⟨b_strconv_FormatInt, _, _, e_strconv_FormatInt⟩
  · cases h; exact ⟨b_strings_TrimSuffix, _, _, e_strings_TrimSuffix⟩
  · cases h; exact ⟨b_strings_Join, _, _, e_strings_Join⟩
  · cases h; exact ⟨b_rv_Writes, _, _, e_rv_Writes⟩
  · cases h; exact ⟨b_proofmarkref10_Writes, _, _, e_proofmarkref10_Writes⟩
  · cases h; exact ⟨b_rv_Reads, _, _, e_rv_Reads⟩
  · cases h; exact ⟨b_proofmarklaw10_same, _, _, e_proofmarklaw10_same⟩
  · cases h; exact ⟨b_proofmarkref10_Reads, _, _, e_proofmarkref10_Reads⟩
  · cases h; exact ⟨b_proofmarkref10_Name, _, _, e_proofmarkref10_Name⟩
  · cases h; exact ⟨b_proofmarkref10_Text, _, _, e_proofmarkref10_Text⟩
  · cases h; exact ⟨b_rv_tells, _, _, e_rv_tells⟩
  · cases h; exact ⟨b_rv_form_width, _, _, e_rv_form_width⟩
  · cases h; exact ⟨b_proofmarkref10_signed, _, _, e_proofmarkref10_signed⟩
  · cases h; exact ⟨b_slices_Sort_uint8_uint8, _, _, e_slices_Sort_uint8_uint8⟩
  · cases h; exact ⟨b_slices_Compact_uint8_uint8, _, _, e_slices_Compact_uint8_uint8⟩
  · cases h; exact ⟨b_slices_DeleteFunc_uint8_uint8, _, _, e_slices_DeleteFunc_uint8_uint8⟩
  · cases h; exact ⟨b_rv_Reads_S1, _, _, e_rv_Reads_S1⟩
  · cases h; exact ⟨b_proofmarkref10_digits, _, _, e_proofmarkref10_digits⟩
  · cases h; exact ⟨b_slices_pdqsortOrdered_uint8, _, _, e_slices_pdqsortOrdered_uint8⟩
  · cases h; exact ⟨b_math_bits_Len, _, _, e_math_bits_Len⟩
  · cases h; exact ⟨b_slices_IndexFunc_uint8_uint8, _, _, e_slices_IndexFunc_uint8_uint8⟩
  · cases h; exact ⟨b_math_bits_Len64, _, _, e_math_bits_Len64⟩
  · cases h; exact ⟨b_slices_insertionSortOrdered_uint8, _, _, e_slices_insertionSortOrdered_uint8⟩
  · cases h; exact ⟨b_cmp_Less_uint8, _, _, e_cmp_Less_uint8⟩
  · cases h; exact ⟨b_math_bits_Len32, _, _, e_math_bits_Len32⟩
  · cases h; exact ⟨b_cmp_isNaN_uint8, _, _, e_cmp_isNaN_uint8⟩
  · cases h
end Go.Proofs.YtkhdfbokkneeaaaDoor
