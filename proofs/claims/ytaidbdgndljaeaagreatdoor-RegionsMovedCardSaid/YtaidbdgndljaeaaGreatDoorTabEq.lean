/- The translations are so. -/
import Derived.Test.YtaidbdgndljaeaaGreatDoorTabB
import Derived.Test.YtaidbdgndljaeaaGreatDoorProg
namespace Go.Proofs.YtaidbdgndljaeaaGreatDoor
open Go Go.Am
set_option maxRecDepth 100000
def d_proofmarklaw22_RegionsMoved : Nat → List Nat := fun i => [[], [], [13, 14, 15, 16, 17, 18, 19, 20, 21, 22, 23, 24], [], [26], [], [], [], [27, 28, 29], [], [31, 32], [], [34, 35, 36, 37, 38, 33, 39, 40, 6], [], [41, 42, 43, 44, 45, 46, 47, 48, 49, 50, 51, 52, 53, 54, 55, 56, 57], [], [59], [], [61, 62, 63, 64, 60, 65, 66], [], [68, 69, 70, 71, 72, 67, 73, 74], [], [75, 76], [], [78, 79, 80, 81, 82, 83], [], [84, 85], [], [87, 88, 89, 90, 91, 92, 93, 94, 95, 96, 97], [], [98, 99, 100, 101, 102, 103, 104, 105, 106, 107, 108, 109, 110, 111, 112, 113, 114, 115, 116, 117, 118, 119, 120, 121, 122, 123, 124, 125, 126, 127, 128, 129, 130, 131, 132, 133, 134, 135, 136, 137, 138, 139, 140, 141, 142, 143, 144, 145, 146, 147, 148, 149, 150, 151, 152, 153], [3, 3, 3, 3, 3, 3, 3, 3, 3, 3, 3, 3, 0, 3, 3, 3, 0, 3, 3, 3, 3, 3, 3, 0, 3, 3, 3, 3, 0, 3, 3, 3, 3, 3, 3, 3, 0, 3, 3, 3, 0, 2, 3, 3, 3, 3, 3, 3, 0, 3, 3, 3, 0, 3, 3, 3, 3], [], [], [], [], [155, 156, 157, 158, 159, 160], [], [162, 163], [], [164, 165, 166, 167, 168, 169, 170, 171, 172, 173, 174, 175, 176, 177, 178, 179, 180, 181, 182, 183, 184, 185, 186, 187, 188, 189, 190, 191, 192, 193, 194, 195, 196, 197, 198, 199, 200, 201, 202, 203, 204, 205, 206, 207, 208, 209, 210, 211, 212, 213, 214, 215, 216, 217], [3, 3, 3, 0, 3, 3, 0, 3, 3, 3, 0, 3, 3, 0, 3, 3, 3, 3, 0, 3, 1, 3, 3, 0, 3, 2, 3, 3, 3, 3, 3, 0, 3, 1, 3, 3, 0, 3, 2, 3, 3, 3, 3, 3, 0, 3, 1, 3, 3, 0, 3, 2, 2, 3, 3], [], [], [219], []].getD i []
theorem e_proofmarklaw22_RegionsMoved : compF Tryz.prog (fun _ => false) d_proofmarklaw22_RegionsMoved 4 = some proofmarklaw22_RegionsMoved := by kernel_rfl
theorem b_proofmarklaw22_RegionsMoved : bodied Tryz.prog 4 = true := by kernel_rfl
def d_proofmarklaw22_works : Nat → List Nat := fun i => [[], [], [16, 17, 18, 15, 19, 20], [], [22, 23, 24, 25, 26, 21, 27, 28], [], [30, 31, 32, 33, 29, 34, 35, 5], [], [37, 38, 39, 36, 40, 41, 7], [], [43, 44, 45, 46, 42, 47, 48, 9], [], [50, 51, 52, 53, 54, 49, 55, 56], [], [58, 59, 60, 61, 62, 63, 57, 64, 65], [], [66, 67, 68, 69, 70, 71, 72, 73, 74, 75, 76, 77, 78, 79, 80, 81, 82, 83, 84, 85, 86, 87, 88, 89, 90, 91, 92, 93, 94, 95, 96, 97, 98, 99, 100, 101, 102, 103, 104, 105, 106, 107, 108, 109, 110, 111, 112, 113, 114, 115, 116, 117, 118, 119, 120, 121, 122, 123, 124, 125, 126, 127, 128, 129, 130, 131, 132], []].getD i []
theorem e_proofmarklaw22_works : compF Tryz.prog (fun _ => false) d_proofmarklaw22_works 7 = some proofmarklaw22_works := by kernel_rfl
theorem b_proofmarklaw22_works : bodied Tryz.prog 7 = true := by kernel_rfl
def d_regions_Of : Nat → List Nat := fun i => [[], [], [8, 9], [], [11], [], [], [], [12, 13], [], [], [], [17], [], [19, 20, 21, 18, 22, 23], [], [24, 25], [], [27], [0, 3, 2], [28, 29, 30, 31], [], [32], [], [33, 34], []].getD i []
theorem e_regions_Of : compF Tryz.prog (fun _ => false) d_regions_Of 8 = some regions_Of := by kernel_rfl
theorem b_regions_Of : bodied Tryz.prog 8 = true := by kernel_rfl
def d_regions_Func_Next : Nat → List Nat := fun i => [[], [], [7, 8, 9, 10, 11, 12, 13, 14, 15, 16, 17, 18, 19, 20, 21, 22, 23, 24], [], [], [], [26, 27, 28, 29, 30], [], [], [], [31], [], [33, 34, 35, 36, 37, 38, 39, 40], [], [41, 42, 43, 44, 45, 46], [], [48, 49, 50, 51, 52], [], [53, 54], [], [55, 56, 57, 58], []].getD i []
theorem e_regions_Func_Next : compF Tryz.prog (fun _ => false) d_regions_Func_Next 10 = some regions_Func_Next := by kernel_rfl
theorem b_regions_Func_Next : bodied Tryz.prog 10 = true := by kernel_rfl
def d_rv_Encode : Nat → List Nat := fun i => [[], [], [8, 9, 10, 7, 11, 12], [], [], [], [13, 14, 15, 16, 17, 18, 19, 20, 21, 22, 23, 24, 25, 26, 27, 28, 29, 30, 31, 32, 33, 34, 35, 36, 37, 38, 39, 40, 41, 42, 43, 44, 45, 46, 47, 48, 49, 50, 51, 52, 53, 54, 55], [], [], [], [57, 58, 59, 60, 61], [], [], [], [63, 64, 65, 66, 67, 68, 69, 70, 71, 72, 73, 74, 75, 76, 77, 78, 79, 80, 81, 82, 83, 84, 85, 86, 87, 88, 89], [3, 0, 3, 0, 3, 3, 0, 3, 3, 0, 3, 3, 0, 3, 3, 0, 3, 3, 0, 3, 3, 0, 3, 0, 1, 2, 2, 3, 3]].getD i []
theorem e_rv_Encode : compF Tryz.prog (fun _ => false) d_rv_Encode 12 = some rv_Encode := by kernel_rfl
theorem b_rv_Encode : bodied Tryz.prog 12 = true := by kernel_rfl
def d_proofmarkkit_Image : Nat → List Nat := fun i => [[], [], [10, 11], [], [], [], [12, 13, 14], [], [16, 17], [], [18, 19, 20, 21, 22, 23, 24, 25, 26, 27, 28, 29, 30, 31, 32, 33, 34, 35, 36, 37, 38, 39], [], [], [], [40, 41, 42, 43, 44, 45], [], [47, 48], [], [50, 51, 52, 53, 54, 55, 56, 57, 49, 58, 59], [], [60], [], [62, 63, 64, 65, 66, 67], [], [68], []].getD i []
theorem e_proofmarkkit_Image : compF Tryz.prog (fun _ => false) d_proofmarkkit_Image 13 = some proofmarkkit_Image := by kernel_rfl
theorem b_proofmarkkit_Image : bodied Tryz.prog 13 = true := by kernel_rfl
def d_proofmarkkit_SameInts : Nat → List Nat := fun i => [[], [], [6, 7, 8, 9], [], [], [], [], [], [11, 12, 13], [], [15, 16], [], [17, 18, 19, 20, 21, 22, 23, 24], [3, 3, 3, 0, 3, 3, 3, 0, 3], [], [], [], []].getD i []
theorem e_proofmarkkit_SameInts : compF Tryz.prog (fun _ => false) d_proofmarkkit_SameInts 14 = some proofmarkkit_SameInts := by kernel_rfl
theorem b_proofmarkkit_SameInts : bodied Tryz.prog 14 = true := by kernel_rfl
def d_regions_Func_Return : Nat → List Nat := fun i => [[], [], [5, 6, 7, 8, 9, 10, 11, 12, 13, 14, 15, 16, 17, 18, 19], []].getD i []
theorem e_regions_Func_Return : compF Tryz.prog (fun _ => false) d_regions_Func_Return 15 = some regions_Func_Return := by kernel_rfl
theorem b_regions_Func_Return : bodied Tryz.prog 15 = true := by kernel_rfl
def d_regions_Func_Ends : Nat → List Nat := fun i => [[], [], [8, 9, 10, 11, 12, 13, 14, 15, 16, 17, 18, 19], [], [20, 21, 22, 23, 24, 25, 26, 27], [], [], [], [29], [], [], [], [34, 35, 36], [], [37, 38, 39, 40, 41, 42, 43, 44, 45, 46], [], [], [], [48], [], [], []].getD i []
theorem e_regions_Func_Ends : compF Tryz.prog (fun _ => false) d_regions_Func_Ends 16 = some regions_Func_Ends := by kernel_rfl
theorem b_regions_Func_Ends : bodied Tryz.prog 16 = true := by kernel_rfl
def d_proofmarklaw22_addi : Nat → List Nat := fun i => [[], [], [7, 8, 9, 10], []].getD i []
theorem e_proofmarklaw22_addi : compF Tryz.prog (fun _ => false) d_proofmarklaw22_addi 18 = some proofmarklaw22_addi := by kernel_rfl
theorem b_proofmarklaw22_addi : bodied Tryz.prog 18 = true := by kernel_rfl
def d_proofmarklaw22_back : Nat → List Nat := fun i => [[], [], [1], []].getD i []
theorem e_proofmarklaw22_back : compF Tryz.prog (fun _ => false) d_proofmarklaw22_back 20 = some proofmarklaw22_back := by kernel_rfl
theorem b_proofmarklaw22_back : bodied Tryz.prog 20 = true := by kernel_rfl
def d_proofmarklaw22_of : Nat → List Nat := fun i => [[], [], [7, 8, 9, 10, 6, 11, 12], [], [13, 14], [], [16, 17], [3, 1, 2, 2], [18, 19, 20, 21], [3, 3, 0, 1, 2, 2]].getD i []
theorem e_proofmarklaw22_of : compF Tryz.prog (fun _ => false) d_proofmarklaw22_of 21 = some proofmarklaw22_of := by kernel_rfl
theorem b_proofmarklaw22_of : bodied Tryz.prog 21 = true := by kernel_rfl
def d_image_Right : Nat → List Nat := fun i => [[], [], [7], [], [], [], [8], [], [9, 10, 11, 12, 13], [], [14, 15, 16], []].getD i []
theorem e_image_Right : compF Tryz.prog (fun d => List.contains [13] d) d_image_Right 22 = some image_Right := by kernel_rfl
theorem b_image_Right : bodied Tryz.prog 22 = true := by kernel_rfl
def d_regions_read : Nat → List Nat := fun i => [[], [], [17, 18, 19, 16, 20, 21], [], [22, 23, 24, 25, 26, 27, 28, 29, 30, 31, 32], [0, 3, 0, 3, 3, 3, 0, 3, 3, 3, 2, 3], [33], [], [34, 35, 36, 37, 38, 39], [], [], [], [44, 45, 46], [], [48, 49, 47, 50, 51], [], [52], [], [54, 55, 56], [], [57, 58, 59, 60, 61, 62, 63, 64, 65, 66, 67, 68], [3, 3, 3, 3, 3, 0, 0, 1, 2, 3, 3, 3, 2], [69], [], [70, 71, 72, 73, 74, 75, 76, 77, 78, 79, 80, 81], [], [82, 83, 84, 85, 86], [], [], [], [90], [], [91, 92, 93], [], [95, 96, 97, 98], [], [99, 100, 101], [], [102], [], [104, 105, 106, 107, 108], [], [109], [], [110, 111, 112, 113, 114, 115, 116, 117, 118], [], [119, 120, 121, 122, 123], []].getD i []
theorem e_regions_read : compF Tryz.prog (fun _ => false) d_regions_read 23 = some regions_read := by kernel_rfl
theorem b_regions_read : bodied Tryz.prog 23 = true := by kernel_rfl
def d_regions_jumps : Nat → List Nat := fun i => [[], [], [3, 4, 5, 6, 7, 8, 9, 10, 11, 12, 13, 14], []].getD i []
theorem e_regions_jumps : compF Tryz.prog (fun _ => false) d_regions_jumps 24 = some regions_jumps := by kernel_rfl
theorem b_regions_jumps : bodied Tryz.prog 24 = true := by kernel_rfl
def d_regions_branches : Nat → List Nat := fun i => [[], [], [3, 4, 5, 6, 7, 8, 9, 10], []].getD i []
theorem e_regions_branches : compF Tryz.prog (fun _ => false) d_regions_branches 25 = some regions_branches := by kernel_rfl
theorem b_regions_branches : bodied Tryz.prog 25 = true := by kernel_rfl
def d_slices_Sort_int_int : Nat → List Nat := fun i => [[3, 4], [], [5, 6, 7, 8, 9, 10], []].getD i []
theorem e_slices_Sort_int_int : compF Tryz.prog (fun _ => false) d_slices_Sort_int_int 26 = some slices_Sort_int_int := by kernel_rfl
theorem b_slices_Sort_int_int : bodied Tryz.prog 26 = true := by kernel_rfl
def d_slices_DeleteFunc_int_int : Nat → List Nat := fun i => [[], [], [8, 9, 10], [], [11], [], [13], [], [14, 15], [], [16, 17, 18], [], [20, 21], [], [22, 23, 24, 25], [], [26, 27, 28], [], [30, 31, 32, 33], [], [34, 35], [], [36, 37, 38], [], [39, 40, 41], []].getD i []
theorem e_slices_DeleteFunc_int_int : compF Tryz.prog (fun _ => false) d_slices_DeleteFunc_int_int 27 = some slices_DeleteFunc_int_int := by kernel_rfl
theorem b_slices_DeleteFunc_int_int : bodied Tryz.prog 27 = true := by kernel_rfl
def d_slices_Compact_int_int : Nat → List Nat := fun i => [[], [], [6, 7], [], [9], [], [], [], [10, 11, 12], [], [14, 15], [], [16, 17, 18, 19, 20, 21, 22, 23, 24], [3, 3, 3, 0, 3, 3, 3, 3, 0, 3], [26, 27, 28], [], [], [], [29, 30, 31], [], [33, 34], [], [35, 36, 37, 38, 39, 40, 41, 42, 43], [3, 3, 3, 0, 3, 3, 3, 3, 0, 3], [45, 46, 47, 48, 49, 50, 51], [], [52, 53], [], [54, 55, 56], [], [57, 58, 59], [], [60], []].getD i []
theorem e_slices_Compact_int_int : compF Tryz.prog (fun _ => false) d_slices_Compact_int_int 28 = some slices_Compact_int_int := by kernel_rfl
theorem b_slices_Compact_int_int : bodied Tryz.prog 28 = true := by kernel_rfl
def d_regions_Func_Next_S1 : Nat → List Nat := fun i => [[], [], [4, 5, 6, 7, 8, 9, 10, 11, 12], []].getD i []
theorem e_regions_Func_Next_S1 : compF Tryz.prog (fun _ => false) d_regions_Func_Next_S1 29 = some regions_Func_Next_S1 := by kernel_rfl
theorem b_regions_Func_Next_S1 : bodied Tryz.prog 29 = true := by kernel_rfl
def d_rv_Writes : Nat → List Nat := fun i => [[], [], [9, 10, 8, 11, 12, 4], [], [14, 15, 16, 13, 17, 18, 7], [], [19, 20, 21, 22, 23, 24, 25, 26, 27, 28, 29, 30], [], [], [], [32, 33], []].getD i []
theorem e_rv_Writes : compF Tryz.prog (fun _ => false) d_rv_Writes 30 = some rv_Writes := by kernel_rfl
theorem b_rv_Writes : bodied Tryz.prog 30 = true := by kernel_rfl
def d_rv_of : Nat → List Nat := fun i => [[], [], [5], [], [6, 7, 8, 9, 10, 11], [], [13], [], [14, 15, 16], []].getD i []
theorem e_rv_of : compF Tryz.prog (fun _ => false) d_rv_of 31 = some rv_of := by kernel_rfl
theorem b_rv_of : bodied Tryz.prog 31 = true := by kernel_rfl
def d_rv_Encode_S1 : Nat → List Nat := fun i => [[], [], [5, 6, 7, 8, 9, 10, 11, 12, 13], []].getD i []
theorem e_rv_Encode_S1 : compF Tryz.prog (fun _ => false) d_rv_Encode_S1 32 = some rv_Encode_S1 := by kernel_rfl
theorem b_rv_Encode_S1 : bodied Tryz.prog 32 = true := by kernel_rfl
def d_rv_form_fits : Nat → List Nat := fun i => [[], [], [7, 8, 9], [0, 2, 3, 3, 3], [10], [], [12, 13, 14, 15, 16], [], [17, 18, 19, 20, 21, 22, 23, 24, 25, 26, 27, 28, 29, 30, 31, 32, 33], []].getD i []
theorem e_rv_form_fits : compF Tryz.prog (fun _ => false) d_rv_form_fits 33 = some rv_form_fits := by kernel_rfl
theorem b_rv_form_fits : bodied Tryz.prog 33 = true := by kernel_rfl
def d_rv_together : Nat → List Nat := fun i => [[], [], [], [], [], [], [], [], [10, 11], [], [12, 13, 14], [], [15], [], [16], []].getD i []
theorem e_rv_together : compF Tryz.prog (fun _ => false) d_rv_together 34 = some rv_together := by kernel_rfl
theorem b_rv_together : bodied Tryz.prog 34 = true := by kernel_rfl
def d_rv_form_spread : Nat → List Nat := fun i => [[], [], [], [], [8, 9, 10, 11], [], [12, 13], [], [], [], [17, 18, 19, 20, 21, 22, 23, 24, 25, 26, 27, 28], [0, 0, 3, 0, 3, 3, 3, 3, 3, 0, 3, 3, 2], [29, 30, 31, 32], [], [33], []].getD i []
theorem e_rv_form_spread : compF Tryz.prog (fun _ => false) d_rv_form_spread 35 = some rv_form_spread := by kernel_rfl
theorem b_rv_form_spread : bodied Tryz.prog 35 = true := by kernel_rfl
theorem g_rv_form_spread_0a : (rngOf Tryz.prog 35 0).map (fun r => (compC Tryz.prog 34 (fun _ => false) d_rv_form_spread (rngA r), calm (rngA r))) = some (some rv_form_spread_g0a, true) := by kernel_rfl
theorem g_rv_form_spread_0b : (rngOf Tryz.prog 35 0).map (fun r => (compC Tryz.prog 34 (fun _ => false) d_rv_form_spread (rngB r), calm (rngB r))) = some (some rv_form_spread_g0b, true) := by kernel_rfl
def d_regions_Func_is : Nat → List Nat := fun i => [[], [], [7, 8, 9, 10, 11, 12, 13, 14, 15, 16, 17, 18, 19, 20, 21, 22, 23, 24], [3, 3, 3, 3, 3, 0, 3, 3, 3, 3, 3, 0, 3, 3, 0, 0, 3, 3, 3]].getD i []
theorem e_regions_Func_is : compF Tryz.prog (fun _ => false) d_regions_Func_is 36 = some regions_Func_is := by kernel_rfl
theorem b_regions_Func_is : bodied Tryz.prog 36 = true := by kernel_rfl
def d_regions_Func_restores : Nat → List Nat := fun i => [[], [], [5, 6, 7, 8, 9, 10, 11, 12, 13, 14, 15, 16, 17, 18, 19, 20, 21, 22], []].getD i []
theorem e_regions_Func_restores : compF Tryz.prog (fun _ => false) d_regions_Func_restores 37 = some regions_Func_restores := by kernel_rfl
theorem b_regions_Func_restores : bodied Tryz.prog 37 = true := by kernel_rfl
def d_image_Right_S1 : Nat → List Nat := fun i => [[], [], [7, 8, 9, 10, 11], [], [12, 13, 14, 15, 16, 17, 18, 19, 20, 21, 22, 23, 24, 25, 26, 27, 28, 29, 30, 31, 32, 33, 34, 35, 36, 37, 38, 39, 40, 41, 42, 43, 44, 45, 46, 47, 48, 49], [], [50, 51], [], [52], []].getD i []
theorem e_image_Right_S1 : compF Tryz.prog (fun _ => false) d_image_Right_S1 48 = some image_Right_S1 := by kernel_rfl
theorem b_image_Right_S1 : bodied Tryz.prog 48 = true := by kernel_rfl
def d_image_Right_S2 : Nat → List Nat := fun i => [[], [], [2, 3, 4, 5, 6, 7, 8, 9, 10, 11, 12, 13, 14, 15], []].getD i []
theorem e_image_Right_S2 : compF Tryz.prog (fun _ => false) d_image_Right_S2 49 = some image_Right_S2 := by kernel_rfl
theorem b_image_Right_S2 : bodied Tryz.prog 49 = true := by kernel_rfl
def d_image_Right_S3 : Nat → List Nat := fun i => [[], [], [2, 3, 4, 5, 6, 7, 8, 9, 10, 11], []].getD i []
theorem e_image_Right_S3 : compF Tryz.prog (fun _ => false) d_image_Right_S3 50 = some image_Right_S3 := by kernel_rfl
theorem b_image_Right_S3 : bodied Tryz.prog 50 = true := by kernel_rfl
def d_image_Right_S4 : Nat → List Nat := fun i => [[], [], [2, 3, 4, 5, 6, 7, 8, 9, 10, 11, 12, 13, 14, 15, 16, 17, 18, 19], []].getD i []
theorem e_image_Right_S4 : compF Tryz.prog (fun _ => false) d_image_Right_S4 51 = some image_Right_S4 := by kernel_rfl
theorem b_image_Right_S4 : bodied Tryz.prog 51 = true := by kernel_rfl
def d_image_Right_S5 : Nat → List Nat := fun i => [[], [], [3, 4, 5, 6, 7], []].getD i []
theorem e_image_Right_S5 : compF Tryz.prog (fun _ => false) d_image_Right_S5 52 = some image_Right_S5 := by kernel_rfl
theorem b_image_Right_S5 : bodied Tryz.prog 52 = true := by kernel_rfl
def d_slices_ContainsFunc_image_Sym_image_Sym : Nat → List Nat := fun i => [[], [], [5, 6, 7, 8], []].getD i []
theorem e_slices_ContainsFunc_image_Sym_image_Sym : compF Tryz.prog (fun _ => false) d_slices_ContainsFunc_image_Sym_image_Sym 53 = some slices_ContainsFunc_image_Sym_image_Sym := by kernel_rfl
theorem b_slices_ContainsFunc_image_Sym_image_Sym : bodied Tryz.prog 53 = true := by kernel_rfl
def d_slices_ContainsFunc_func_bool_func_bool : Nat → List Nat := fun i => [[], [], [5, 6, 7, 8], []].getD i []
theorem e_slices_ContainsFunc_func_bool_func_bool : compF Tryz.prog (fun _ => false) d_slices_ContainsFunc_func_bool_func_bool 54 = some slices_ContainsFunc_func_bool_func_bool := by kernel_rfl
theorem b_slices_ContainsFunc_func_bool_func_bool : bodied Tryz.prog 54 = true := by kernel_rfl
def d_image_Right_S6 : Nat → List Nat := fun i => [[], [], [3, 4, 5], []].getD i []
theorem e_image_Right_S6 : compF Tryz.prog (fun _ => false) d_image_Right_S6 55 = some image_Right_S6 := by kernel_rfl
theorem b_image_Right_S6 : bodied Tryz.prog 55 = true := by kernel_rfl
def d_image_Bounds : Nat → List Nat := fun i => [[], [], [7, 8, 9, 10, 11, 12, 13, 14, 15, 16, 17, 18, 19], [], [], [], [21, 22, 23, 24], [], [25, 26, 27, 28, 29], [], [31, 32, 33, 34, 35, 36, 37], [], [38, 39, 40, 41, 42, 43, 44], []].getD i []
theorem e_image_Bounds : compF Tryz.prog (fun _ => false) d_image_Bounds 56 = some image_Bounds := by kernel_rfl
theorem b_image_Bounds : bodied Tryz.prog 56 = true := by kernel_rfl
def d_rv_Decode : Nat → List Nat := fun i => [[], [], [10], [], [11, 12, 13], [], [14], [], [16], [], [17, 18, 19], [], [20, 21, 22, 23, 24, 25, 26], [], [27, 28, 29, 30, 31, 32, 33, 34, 35, 36, 37, 38, 39, 40, 41, 42, 43, 44], [], [], [], [49, 50], [], [51], [], [53, 54, 55, 56, 57, 58, 59, 60], [3, 0, 3, 0, 0, 1, 3, 3, 2], [61], [], [62], []].getD i []
theorem e_rv_Decode : compF Tryz.prog (fun d => List.contains [45] d) d_rv_Decode 57 = some rv_Decode := by kernel_rfl
theorem b_rv_Decode : bodied Tryz.prog 57 = true := by kernel_rfl
def d_regions_frame : Nat → List Nat := fun i => [[], [], [4, 5, 6], [], [7, 8, 9, 10, 11, 12, 13, 14, 15, 16, 17, 18, 19, 20, 21, 22, 23, 24, 25, 26, 27, 28, 29, 30, 31], [], [], [], [33], []].getD i []
theorem e_regions_frame : compF Tryz.prog (fun _ => false) d_regions_frame 58 = some regions_frame := by kernel_rfl
theorem b_regions_frame : bodied Tryz.prog 58 = true := by kernel_rfl
def d_regions_reader_fault : Nat → List Nat := fun i => [[], [], [8, 9, 10, 11, 12, 13, 14, 15, 16, 17, 18, 19, 20], [], [], [], [], [], [25, 26], [], [27, 28, 29, 30], [], [32, 33], [], [34], [], [], []].getD i []
theorem e_regions_reader_fault : compF Tryz.prog (fun d => List.contains [20] d) d_regions_reader_fault 59 = some regions_reader_fault := by kernel_rfl
theorem b_regions_reader_fault : bodied Tryz.prog 59 = true := by kernel_rfl
def d_regions_Func_cuts : Nat → List Nat := fun i => [[], [], [10], [], [11, 12], [], [], [], [16], [], [17, 18], [], [], [], [23, 24], [], [25, 26, 27, 28], [], [29], [], [30], [], [], [], [31], [], [33], [], [35, 36, 37], [], [38], [], [40, 41, 42, 43], [], [44, 45], [], [46], []].getD i []
theorem e_regions_Func_cuts : compF Tryz.prog (fun _ => false) d_regions_Func_cuts 60 = some regions_Func_cuts := by kernel_rfl
theorem b_regions_Func_cuts : bodied Tryz.prog 60 = true := by kernel_rfl
def d_math_bits_Len : Nat → List Nat := fun i => [[], [], [3, 4, 5], [], [6, 7], []].getD i []
theorem e_math_bits_Len : compF Tryz.prog (fun _ => false) d_math_bits_Len 62 = some math_bits_Len := by kernel_rfl
theorem b_math_bits_Len : bodied Tryz.prog 62 = true := by kernel_rfl
def d_slices_IndexFunc_int_int : Nat → List Nat := fun i => [[], [], [6], [], [], [], [10], [], [11, 12, 13, 14, 15], [], [17], [], [18], [], [], []].getD i []
theorem e_slices_IndexFunc_int_int : compF Tryz.prog (fun _ => false) d_slices_IndexFunc_int_int 63 = some slices_IndexFunc_int_int := by kernel_rfl
theorem b_slices_IndexFunc_int_int : bodied Tryz.prog 63 = true := by kernel_rfl
def d_rv_table : Nat → List Nat := fun i => [[], [], [10], [], [11, 12, 13], [], [14, 15, 16], [], [17, 18, 19], [], [20, 21, 22, 23], [], [24, 25, 26, 27, 28, 29], [], [30, 31, 32], [], [33, 34, 35, 36, 37, 38], [], [39], [], [40, 41, 42, 43, 44, 45, 46, 47, 48, 49, 50, 51, 52, 53, 54, 55, 56, 57, 58, 59, 60, 61, 62, 63, 64, 65, 66, 67, 68, 69, 70, 71, 72, 73, 74, 75, 76, 77, 78, 79, 80, 81, 82, 83, 84, 85, 86, 87, 88, 89, 90, 91, 92, 93, 94, 95, 96, 97, 98, 99, 100, 101, 102, 103, 104, 105, 106, 107, 108, 109, 110, 111, 112, 113, 114, 115, 116, 117, 118, 119, 120, 121, 122, 123, 124, 125, 126, 127, 128, 129, 130, 131, 132, 133, 134, 135, 136, 137, 138, 139, 140, 141, 142, 143, 144, 145, 146, 147, 148, 149, 150, 151, 152, 153, 154, 155, 156, 157, 158, 159, 160, 161, 162, 163, 164, 165, 166, 167, 168, 169, 170], [0, 1, 0, 1, 0, 1, 0, 1, 0, 1, 0, 1, 0, 1, 0, 1, 0, 1, 0, 1, 0, 1, 0, 1, 0, 1, 0, 1, 0, 1, 0, 1, 0, 1, 0, 1, 0, 1, 0, 1, 0, 1, 0, 1, 0, 1, 0, 1, 0, 1, 0, 1, 0, 1, 0, 1, 0, 1, 0, 1, 0, 1, 0, 1, 0, 1, 0, 1, 0, 1, 0, 1, 0, 1, 0, 1, 0, 1, 0, 1, 0, 1, 0, 1, 0, 1, 0, 1, 0, 1, 0, 1, 0, 1, 0, 1, 0, 1, 0, 1, 0, 1, 0, 1, 0, 1, 0, 1, 0, 1, 0, 1, 0, 1, 0, 1, 0, 1, 0, 1, 0, 1, 0, 1, 0, 1, 0, 1, 0, 2, 3, 2]].getD i []
theorem e_rv_table : compF Tryz.prog (fun _ => false) d_rv_table 64 = some rv_table := by kernel_rfl
theorem b_rv_table : bodied Tryz.prog 64 = true := by kernel_rfl
def d_rv_form_width : Nat → List Nat := fun i => [[], [], [6, 7], [], [8], [], [], [], [13, 14], [], [15, 16, 17, 18], [], [19], [], [20], []].getD i []
theorem e_rv_form_width : compF Tryz.prog (fun _ => false) d_rv_form_width 65 = some rv_form_width := by kernel_rfl
theorem b_rv_form_width : bodied Tryz.prog 65 = true := by kernel_rfl
def d_slices_IndexFunc_image_Sym_image_Sym : Nat → List Nat := fun i => [[], [], [6], [], [], [], [10], [], [11, 12, 13, 14, 15], [], [17], [], [18], [], [], []].getD i []
theorem e_slices_IndexFunc_image_Sym_image_Sym : compF Tryz.prog (fun _ => false) d_slices_IndexFunc_image_Sym_image_Sym 74 = some slices_IndexFunc_image_Sym_image_Sym := by kernel_rfl
theorem b_slices_IndexFunc_image_Sym_image_Sym : bodied Tryz.prog 74 = true := by kernel_rfl
def d_slices_IndexFunc_func_bool_func_bool : Nat → List Nat := fun i => [[], [], [6], [], [], [], [10], [], [11, 12, 13, 14, 15], [], [17], [], [18], [], [], []].getD i []
theorem e_slices_IndexFunc_func_bool_func_bool : compF Tryz.prog (fun _ => false) d_slices_IndexFunc_func_bool_func_bool 75 = some slices_IndexFunc_func_bool_func_bool := by kernel_rfl
theorem b_slices_IndexFunc_func_bool_func_bool : bodied Tryz.prog 75 = true := by kernel_rfl
def d_slices_IndexFunc_rv_row_rv_row : Nat → List Nat := fun i => [[], [], [6], [], [], [], [10], [], [11, 12, 13, 14, 15], [], [17], [], [18], [], [], []].getD i []
theorem e_slices_IndexFunc_rv_row_rv_row : compF Tryz.prog (fun _ => false) d_slices_IndexFunc_rv_row_rv_row 76 = some slices_IndexFunc_rv_row_rv_row := by kernel_rfl
theorem b_slices_IndexFunc_rv_row_rv_row : bodied Tryz.prog 76 = true := by kernel_rfl
def d_rv_Decode_S1 : Nat → List Nat := fun i => [[], [], [4, 5, 6, 7, 8, 9, 10, 11, 12, 13, 14, 15, 16, 17], []].getD i []
theorem e_rv_Decode_S1 : compF Tryz.prog (fun _ => false) d_rv_Decode_S1 77 = some rv_Decode_S1 := by kernel_rfl
theorem b_rv_Decode_S1 : bodied Tryz.prog 77 = true := by kernel_rfl
def d_rv_form_number : Nat → List Nat := fun i => [[], [], [], [], [8], [], [], [], [13, 14], [], [15, 16, 17, 18, 19, 20, 21, 22, 23], [3, 3, 0, 3, 0, 3, 1, 3, 3, 3], [24], [], [25, 26, 27, 28], [], [29], [], [31, 32, 33, 34, 35, 36, 37, 38, 39], [3, 0, 1, 3, 3, 0, 2, 3, 3, 3], [40], []].getD i []
theorem e_rv_form_number : compF Tryz.prog (fun _ => false) d_rv_form_number 78 = some rv_form_number := by kernel_rfl
theorem b_rv_form_number : bodied Tryz.prog 78 = true := by kernel_rfl
def d_rv_bits_of : Nat → List Nat := fun i => [[], [], [5, 6, 7, 8, 9, 10, 11, 12, 13], [3, 3, 0, 3, 3, 0, 3, 3, 3, 3]].getD i []
theorem e_rv_bits_of : compF Tryz.prog (fun _ => false) d_rv_bits_of 79 = some rv_bits_of := by kernel_rfl
theorem b_rv_bits_of : bodied Tryz.prog 79 = true := by kernel_rfl
def d_regions_reader_op : Nat → List Nat := fun i => [[], [], [7, 8, 9, 10, 11, 12, 13, 14, 15], [], [16], [], [17, 18, 19, 20, 21, 22, 23, 24, 25, 26, 27, 28, 29, 30, 31], []].getD i []
theorem e_regions_reader_op : compF Tryz.prog (fun _ => false) d_regions_reader_op 80 = some regions_reader_op := by kernel_rfl
theorem b_regions_reader_op : bodied Tryz.prog 80 = true := by kernel_rfl
def d_regions_reader_stack : Nat → List Nat := fun i => [[], [], [8, 9, 10, 11, 12, 13, 14, 15], [], [16, 17, 18, 19, 20, 21, 22, 23, 24, 25, 26, 27, 28, 29, 30, 31, 32], [], [], [], [35, 36, 34, 37, 38], [], [39, 40, 41, 42], [], [], [], [44, 45, 46], [], [], [], [48], [], [51], [], [], [], [53], [], [54], [], [55, 56, 57], [], [], []].getD i []
theorem e_regions_reader_stack : compF Tryz.prog (fun _ => false) d_regions_reader_stack 81 = some regions_reader_stack := by kernel_rfl
theorem b_regions_reader_stack : bodied Tryz.prog 81 = true := by kernel_rfl
def d_regions_reader_target : Nat → List Nat := fun i => [[], [], [8, 9, 10, 11, 12, 13, 14, 15], [], [17, 18], [], [19, 20, 21, 22, 23], [], [24, 25, 26, 27, 28, 29, 30, 31, 32, 33, 34, 35, 36, 37, 38, 39, 40, 41, 42, 43, 44, 45, 46, 47, 48, 49, 50, 51, 52, 53, 54, 55, 56, 57, 58], [], [60, 61, 62], [], [63, 64, 65, 66, 67, 68, 69, 70, 71, 72, 73], [3, 3, 3, 3, 0, 3, 3, 3, 3, 0, 3, 1, 2], [74, 75, 76, 77, 78, 79, 80, 81, 82, 83, 84, 85], [], [], []].getD i []
theorem e_regions_reader_target : compF Tryz.prog (fun _ => false) d_regions_reader_target 82 = some regions_reader_target := by kernel_rfl
theorem b_regions_reader_target : bodied Tryz.prog 82 = true := by kernel_rfl
def d_regions_reader_back : Nat → List Nat := fun i => [[], [], [5, 6, 7, 8, 9, 10, 11, 12, 13, 14, 15, 16, 17, 18, 19, 20, 21, 22], []].getD i []
theorem e_regions_reader_back : compF Tryz.prog (fun _ => false) d_regions_reader_back 83 = some regions_reader_back := by kernel_rfl
theorem b_regions_reader_back : bodied Tryz.prog 83 = true := by kernel_rfl
def d_math_bits_Len32 : Nat → List Nat := fun i => [[], [], [3], [], [5, 6], [], [], [], [7], [], [9, 10], [], [11, 12], [], [13, 14, 15, 16, 17, 18], []].getD i []
theorem e_math_bits_Len32 : compF Tryz.prog (fun _ => false) d_math_bits_Len32 93 = some math_bits_Len32 := by kernel_rfl
theorem b_math_bits_Len32 : bodied Tryz.prog 93 = true := by kernel_rfl
def d_math_bits_Len64 : Nat → List Nat := fun i => [[], [], [3], [], [5, 6], [], [], [], [7], [], [9, 10], [], [11, 12], [], [13], [], [15, 16], [], [17, 18], [], [19, 20, 21, 22, 23, 24], []].getD i []
theorem e_math_bits_Len64 : compF Tryz.prog (fun _ => false) d_math_bits_Len64 94 = some math_bits_Len64 := by kernel_rfl
theorem b_math_bits_Len64 : bodied Tryz.prog 94 = true := by kernel_rfl
def d_rv_tells : Nat → List Nat := fun i => [[], [], [11, 12, 13, 14, 15, 16, 17, 18, 19, 20, 21, 22, 23, 24], [0, 3, 3, 3, 3, 0, 3, 3, 3, 0, 3, 1, 1, 3, 2]].getD i []
theorem e_rv_tells : compF Tryz.prog (fun _ => false) d_rv_tells 95 = some rv_tells := by kernel_rfl
theorem b_rv_tells : bodied Tryz.prog 95 = true := by kernel_rfl
def d_regions_reader_op_S1 : Nat → List Nat := fun i => [[], [], [6, 7, 8, 9, 10, 11, 12, 13], []].getD i []
theorem e_regions_reader_op_S1 : compF Tryz.prog (fun _ => false) d_regions_reader_op_S1 105 = some regions_reader_op_S1 := by kernel_rfl
theorem b_regions_reader_op_S1 : bodied Tryz.prog 105 = true := by kernel_rfl
def d_slices_Contains_uint8_uint8 : Nat → List Nat := fun i => [[], [], [5, 6, 7, 8], []].getD i []
theorem e_slices_Contains_uint8_uint8 : compF Tryz.prog (fun _ => false) d_slices_Contains_uint8_uint8 106 = some slices_Contains_uint8_uint8 := by kernel_rfl
theorem b_slices_Contains_uint8_uint8 : bodied Tryz.prog 106 = true := by kernel_rfl
def d_rv_Reads : Nat → List Nat := fun i => [[], [], [7, 8, 6, 9, 10, 3], [], [11], [], [], [], [13, 14, 15, 16, 17], [], [18, 19], [], [20, 21], [], [22, 23], []].getD i []
theorem e_rv_Reads : compF Tryz.prog (fun d => List.contains [17, 19, 21, 23] d) d_rv_Reads 107 = some rv_Reads := by kernel_rfl
theorem b_rv_Reads : bodied Tryz.prog 107 = true := by kernel_rfl
def d_regions_reader_target_S1 : Nat → List Nat := fun i => [[], [], [4, 5, 6, 7], []].getD i []
theorem e_regions_reader_target_S1 : compF Tryz.prog (fun _ => false) d_regions_reader_target_S1 108 = some regions_reader_target_S1 := by kernel_rfl
theorem b_regions_reader_target_S1 : bodied Tryz.prog 108 = true := by kernel_rfl
def d_slices_Index_uint8_uint8 : Nat → List Nat := fun i => [[], [], [6], [], [], [], [10], [], [11, 12, 13, 14, 15], [], [17], [], [18], [], [], []].getD i []
theorem e_slices_Index_uint8_uint8 : compF Tryz.prog (fun _ => false) d_slices_Index_uint8_uint8 118 = some slices_Index_uint8_uint8 := by kernel_rfl
theorem b_slices_Index_uint8_uint8 : bodied Tryz.prog 118 = true := by kernel_rfl
def d_slices_Sort_uint8_uint8 : Nat → List Nat := fun i => [[3, 4], [], [5, 6, 7, 8, 9, 10], []].getD i []
theorem e_slices_Sort_uint8_uint8 : compF Tryz.prog (fun d => List.contains [10] d) d_slices_Sort_uint8_uint8 119 = some slices_Sort_uint8_uint8 := by kernel_rfl
theorem b_slices_Sort_uint8_uint8 : bodied Tryz.prog 119 = true := by kernel_rfl
def d_slices_Compact_uint8_uint8 : Nat → List Nat := fun i => [[], [], [6, 7], [], [9], [], [], [], [10, 11, 12], [], [14, 15], [], [16, 17, 18, 19, 20, 21, 22, 23, 24], [3, 3, 3, 0, 3, 3, 3, 3, 0, 3], [26, 27, 28], [], [], [], [29, 30, 31], [], [33, 34], [], [35, 36, 37, 38, 39, 40, 41, 42, 43], [3, 3, 3, 0, 3, 3, 3, 3, 0, 3], [45, 46, 47, 48, 49, 50, 51], [], [52, 53], [], [54, 55, 56], [], [57, 58, 59], [], [60], []].getD i []
theorem e_slices_Compact_uint8_uint8 : compF Tryz.prog (fun _ => false) d_slices_Compact_uint8_uint8 120 = some slices_Compact_uint8_uint8 := by kernel_rfl
theorem b_slices_Compact_uint8_uint8 : bodied Tryz.prog 120 = true := by kernel_rfl
def d_slices_DeleteFunc_uint8_uint8 : Nat → List Nat := fun i => [[], [], [8, 9, 10], [], [11], [], [13], [], [14, 15], [], [16, 17, 18], [], [20, 21], [], [22, 23, 24, 25], [], [26, 27, 28], [], [30, 31, 32, 33], [], [34, 35], [], [36, 37, 38], [], [39, 40, 41], []].getD i []
theorem e_slices_DeleteFunc_uint8_uint8 : compF Tryz.prog (fun _ => false) d_slices_DeleteFunc_uint8_uint8 121 = some slices_DeleteFunc_uint8_uint8 := by kernel_rfl
theorem b_slices_DeleteFunc_uint8_uint8 : bodied Tryz.prog 121 = true := by kernel_rfl
def d_rv_Reads_S1 : Nat → List Nat := fun i => [[], [], [3, 4], []].getD i []
theorem e_rv_Reads_S1 : compF Tryz.prog (fun _ => false) d_rv_Reads_S1 122 = some rv_Reads_S1 := by kernel_rfl
theorem b_rv_Reads_S1 : bodied Tryz.prog 122 = true := by kernel_rfl
def d_slices_pdqsortOrdered_uint8 : Nat → List Nat := fun i => [[], [], [], [], [19, 20, 21], [], [22], [], [24, 25, 26, 27], [], [28], [], [30, 31, 32, 33], [], [34], [], [36, 37, 38, 39], [], [40, 41], [], [43, 44, 45, 46, 42, 47, 48], [], [49], [], [51, 52, 53, 54], [], [55, 56, 57, 58, 59, 60], [], [], [], [61, 62, 63, 64, 65, 66, 67], [], [69, 70, 71], [], [73, 74, 75, 76, 77, 78, 79, 80, 81, 82, 83, 84, 85, 86], [3, 3, 3, 3, 3, 3, 3, 0, 3, 3, 3, 0, 2, 3, 3], [88, 89, 90, 91, 92], [], [93], [], [95, 96, 97, 98, 99, 94, 100, 101], [], [102], [], [103, 104, 105, 106, 107, 108], [], [109, 110], [], [111, 112], [], [114, 115, 116], [], [117, 118, 119, 120, 121], [], [122, 123], [], [124, 125, 126], [], [127, 128, 129, 130, 131, 132], [], [133], []].getD i []
theorem e_slices_pdqsortOrdered_uint8 : compF Tryz.prog (fun d => List.contains [27] d) d_slices_pdqsortOrdered_uint8 125 = some slices_pdqsortOrdered_uint8 := by kernel_rfl
theorem b_slices_pdqsortOrdered_uint8 : bodied Tryz.prog 125 = true := by kernel_rfl
def d_slices_IndexFunc_uint8_uint8 : Nat → List Nat := fun i => [[], [], [6], [], [], [], [10], [], [11, 12, 13, 14, 15], [], [17], [], [18], [], [], []].getD i []
theorem e_slices_IndexFunc_uint8_uint8 : compF Tryz.prog (fun _ => false) d_slices_IndexFunc_uint8_uint8 126 = some slices_IndexFunc_uint8_uint8 := by kernel_rfl
theorem b_slices_IndexFunc_uint8_uint8 : bodied Tryz.prog 126 = true := by kernel_rfl
def d_slices_insertionSortOrdered_uint8 : Nat → List Nat := fun i => [[8, 9], [], [10, 11], [], [13, 14], [], [15], [], [16, 17, 18, 19, 20, 21, 22, 23, 24, 25, 26, 27, 28, 29], [3, 3, 3, 3, 3, 3, 3, 0, 3, 3, 3, 3, 0, 2, 3], [31, 32], [], [33, 34, 35, 36, 37, 38, 39, 40, 41, 42, 43, 44, 45, 46, 47, 48], [3, 3, 3, 3, 3, 3, 3, 3, 3, 0, 3, 3, 3, 0, 3, 2, 3, 2]].getD i []
theorem e_slices_insertionSortOrdered_uint8 : compF Tryz.prog (fun _ => false) d_slices_insertionSortOrdered_uint8 127 = some slices_insertionSortOrdered_uint8 := by kernel_rfl
theorem b_slices_insertionSortOrdered_uint8 : bodied Tryz.prog 127 = true := by kernel_rfl
def d_cmp_Less_uint8 : Nat → List Nat := fun i => [[], [], [5, 6, 7, 8, 9, 10, 11, 12, 13, 14, 15, 16], []].getD i []
theorem e_cmp_Less_uint8 : compF Tryz.prog (fun _ => false) d_cmp_Less_uint8 133 = some cmp_Less_uint8 := by kernel_rfl
theorem b_cmp_Less_uint8 : bodied Tryz.prog 133 = true := by kernel_rfl
def d_cmp_isNaN_uint8 : Nat → List Nat := fun i => [[], [], [3, 4, 5], []].getD i []
theorem e_cmp_isNaN_uint8 : compF Tryz.prog (fun _ => false) d_cmp_isNaN_uint8 139 = some cmp_isNaN_uint8 := by kernel_rfl
theorem b_cmp_isNaN_uint8 : bodied Tryz.prog 139 = true := by kernel_rfl
theorem tab_ok : TabOk Tryz.prog tab := fun f A h => by
  unfold tab at h
  split at h
  · cases h; exact ⟨b_proofmarklaw22_RegionsMoved, _, _, e_proofmarklaw22_RegionsMoved⟩
  · cases h; exact ⟨b_proofmarklaw22_works, _, _, e_proofmarklaw22_works⟩
  · cases h; exact ⟨b_regions_Of, _, _, e_regions_Of⟩
  · cases h; exact ⟨b_regions_Func_Next, _, _, e_regions_Func_Next⟩
  · cases h; exact ⟨b_rv_Encode, _, _, e_rv_Encode⟩
  · cases h; exact ⟨b_proofmarkkit_Image, _, _, e_proofmarkkit_Image⟩
  · cases h; exact ⟨b_proofmarkkit_SameInts, _, _, e_proofmarkkit_SameInts⟩
  · cases h; exact ⟨b_regions_Func_Return, _, _, e_regions_Func_Return⟩
  · cases h; exact ⟨b_regions_Func_Ends, _, _, e_regions_Func_Ends⟩
  · cases h; exact ⟨b_proofmarklaw22_addi, _, _, e_proofmarklaw22_addi⟩
  · cases h; exact ⟨b_proofmarklaw22_back, _, _, e_proofmarklaw22_back⟩
  · cases h; exact ⟨b_proofmarklaw22_of, _, _, e_proofmarklaw22_of⟩
  · cases h; exact ⟨b_image_Right, _, _, e_image_Right⟩
  · cases h; exact ⟨b_regions_read, _, _, e_regions_read⟩
  · cases h; exact ⟨b_regions_jumps, _, _, e_regions_jumps⟩
  · cases h; exact ⟨b_regions_branches, _, _, e_regions_branches⟩
  · cases h; exact ⟨b_slices_Sort_int_int, _, _, e_slices_Sort_int_int⟩
  · cases h; exact ⟨b_slices_DeleteFunc_int_int, _, _, e_slices_DeleteFunc_int_int⟩
  · cases h; exact ⟨b_slices_Compact_int_int, _, _, e_slices_Compact_int_int⟩
  · cases h; exact ⟨b_regions_Func_Next_S1, _, _, e_regions_Func_Next_S1⟩
  · cases h; exact ⟨b_rv_Writes, _, _, e_rv_Writes⟩
  · cases h; exact ⟨b_rv_of, _, _, e_rv_of⟩
  · cases h; exact ⟨b_rv_Encode_S1, _, _, e_rv_Encode_S1⟩
  · cases h; exact ⟨b_rv_form_fits, _, _, e_rv_form_fits⟩
  · cases h; exact ⟨b_rv_together, _, _, e_rv_together⟩
  · cases h; exact ⟨b_rv_form_spread, _, _, e_rv_form_spread⟩
  · cases h; exact ⟨b_regions_Func_is, _, _, e_regions_Func_is⟩
  · cases h; exact ⟨b_regions_Func_restores, _, _, e_regions_Func_restores⟩
  · cases h; exact ⟨b_image_Right_S1, _, _, e_image_Right_S1⟩
  · cases h; exact ⟨b_image_Right_S2, _, _, e_image_Right_S2⟩
  · cases h; exact ⟨b_image_Right_S3, _, _, e_image_Right_S3⟩
  · cases h; exact ⟨b_image_Right_S4, _, _, e_image_Right_S4⟩
  · cases h; exact ⟨b_image_Right_S5, _, _, e_image_Right_S5⟩
  · cases h; exact ⟨b_slices_ContainsFunc_image_Sym_image_Sym, _, _, e_slices_ContainsFunc_image_Sym_image_Sym⟩
  · cases h; exact ⟨b_slices_ContainsFunc_func_bool_func_bool, _, _, e_slices_ContainsFunc_func_bool_func_bool⟩
  · cases h; exact ⟨b_image_Right_S6, _, _, e_image_Right_S6⟩
  · cases h; exact ⟨b_image_Bounds, _, _, e_image_Bounds⟩
  · cases h; exact ⟨b_rv_Decode, _, _, e_rv_Decode⟩
  · cases h; exact ⟨b_regions_frame, _, _, e_regions_frame⟩
  · cases h; exact ⟨b_regions_reader_fault, _, _, e_regions_reader_fault⟩
  · cases h; exact ⟨b_regions_Func_cuts, _, _, e_regions_Func_cuts⟩
  · cases h; exact ⟨b_math_bits_Len, _, _, e_math_bits_Len⟩
  · cases h; exact ⟨b_slices_IndexFunc_int_int, _, _, e_slices_IndexFunc_int_int⟩
  · cases h; exact ⟨b_rv_table, _, _, e_rv_table⟩
  · cases h; exact ⟨b_rv_form_width, _, _, e_rv_form_width⟩
  · cases h; exact ⟨b_slices_IndexFunc_image_Sym_image_Sym, _, _, e_slices_IndexFunc_image_Sym_image_Sym⟩
  · cases h; exact ⟨b_slices_IndexFunc_func_bool_func_bool, _, _, e_slices_IndexFunc_func_bool_func_bool⟩
  · cases h; exact ⟨b_slices_IndexFunc_rv_row_rv_row, _, _, e_slices_IndexFunc_rv_row_rv_row⟩
  · cases h; exact ⟨b_rv_Decode_S1, _, _, e_rv_Decode_S1⟩
  · cases h; exact ⟨b_rv_form_number, _, _, e_rv_form_number⟩
  · cases h; exact ⟨b_rv_bits_of, _, _, e_rv_bits_of⟩
  · cases h; exact ⟨b_regions_reader_op, _, _, e_regions_reader_op⟩
  · cases h; exact ⟨b_regions_reader_stack, _, _, e_regions_reader_stack⟩
  · cases h; exact ⟨b_regions_reader_target, _, _, e_regions_reader_target⟩
  · cases h; exact ⟨b_regions_reader_back, _, _, e_regions_reader_back⟩
  · cases h; exact ⟨b_math_bits_Len32, _, _, e_math_bits_Len32⟩
  · cases h; exact ⟨b_math_bits_Len64, _, _, e_math_bits_Len64⟩
  · cases h; exact ⟨b_rv_tells, _, _, e_rv_tells⟩
  · cases h; exact ⟨b_regions_reader_op_S1, _, _, e_regions_reader_op_S1⟩
  · cases h; exact ⟨b_slices_Contains_uint8_uint8, _, _, e_slices_Contains_uint8_uint8⟩
  · cases h; exact ⟨b_rv_Reads, _, _, e_rv_Reads⟩
  · cases h; exact ⟨b_regions_reader_target_S1, _, _, e_regions_reader_target_S1⟩
  · cases h; exact ⟨b_slices_Index_uint8_uint8, _, _, e_slices_Index_uint8_uint8⟩
  · cases h; exact ⟨b_slices_Sort_uint8_uint8, _, _, e_slices_Sort_uint8_uint8⟩
  · cases h; exact ⟨b_slices_Compact_uint8_uint8, _, _, e_slices_Compact_uint8_uint8⟩
  · cases h; exact ⟨b_slices_DeleteFunc_uint8_uint8, _, _, e_slices_DeleteFunc_uint8_uint8⟩
  · cases h; exact ⟨b_rv_Reads_S1, _, _, e_rv_Reads_S1⟩
  · cases h; exact ⟨b_slices_pdqsortOrdered_uint8, _, _, e_slices_pdqsortOrdered_uint8⟩
  · cases h; exact ⟨b_slices_IndexFunc_uint8_uint8, _, _, e_slices_IndexFunc_uint8_uint8⟩
  · cases h; exact ⟨b_slices_insertionSortOrdered_uint8, _, _, e_slices_insertionSortOrdered_uint8⟩
  · cases h; exact ⟨b_cmp_Less_uint8, _, _, e_cmp_Less_uint8⟩
  · cases h; exact ⟨b_cmp_isNaN_uint8, _, _, e_cmp_isNaN_uint8⟩
  · cases h
end Go.Proofs.YtaidbdgndljaeaaGreatDoor
