/- The translations are so. -/
import Derived.Test.YtchcnfokhagpkaaDoorTabB
import Derived.Test.YtchcnfokhagpkaaDoorProg
namespace Go.Proofs.YtchcnfokhagpkaaDoor
open Go Go.Am
set_option maxRecDepth 100000
def d_proofmarklaw02_TermAdds : Nat → List Nat := fun i => [[], [9, 10], [12], [13], [14, 15], [], [16, 17, 18], [20, 21], [22, 23, 24, 25, 26, 27, 28, 29, 30, 31, 32, 33, 34, 35, 36, 37, 38, 39, 40, 41, 42, 43, 44], [], [], [46, 47, 48, 49, 50, 51], [53, 54], [56, 57, 58, 55, 59, 60], [61, 62, 63, 64, 65, 66, 67, 68, 69, 70, 71, 72, 73, 74, 75, 76, 77, 78, 79, 80, 81, 82, 83, 84, 85, 86, 87, 88, 89, 90, 91, 92, 93, 94, 95, 96], [], [98]].getD i []
theorem e_proofmarklaw02_TermAdds : compF Tryd.prog (fun d => List.contains [26, 32] d) d_proofmarklaw02_TermAdds 3 = some proofmarklaw02_TermAdds := by kernel_rfl
theorem b_proofmarklaw02_TermAdds : bodied Tryd.prog 3 = true := by kernel_rfl
def d_proofmarklaw02_TermTells : Nat → List Nat := fun i => [[], [15, 16, 17, 18, 19, 20, 21], [23], [25, 26, 24, 27, 28, 6], [29, 30], [], [31, 32, 33], [35, 36], [37, 38, 39], [40], [42], [43, 44, 45, 46, 47, 48, 49, 50, 51, 52, 53, 54, 55], [], [], [], [57, 58, 59], [61, 62], [63, 64, 65, 66, 67, 68, 69], [70, 71, 72, 73, 74, 75], [76, 77, 78, 79], [], [], [81, 82, 83], [85, 86], [87, 88, 89, 90, 91, 92, 93, 94], [], [96]].getD i []
theorem e_proofmarklaw02_TermTells : compF Tryd.prog (fun _ => false) d_proofmarklaw02_TermTells 4 = some proofmarklaw02_TermTells := by kernel_rfl
theorem b_proofmarklaw02_TermTells : bodied Tryd.prog 4 = true := by kernel_rfl
def d_proofmarklaw02_TermOnce : Nat → List Nat := fun i => [[], [15, 16], [18], [20, 21, 19, 22, 23, 4], [24, 25], [], [], [26, 27], [29, 30], [32, 33, 34, 31, 35, 36], [37, 38, 39, 40, 41, 42, 43, 44, 45, 46, 47, 48, 49, 50, 51, 52, 53, 54, 55, 56, 57, 58, 59, 60, 61, 62, 63, 64, 65, 66, 67, 68, 69, 70, 71, 72], [], [], [74, 75], [77, 78], [80, 81, 82, 79, 83, 84, 12], [85, 86], [], [88, 89, 90], [92, 93, 94, 95, 96, 97], [], [98, 99, 100], [102, 103], [], [104, 105], [107, 108], [109, 110, 111, 112, 113, 114, 115, 116], [], [118]].getD i []
theorem e_proofmarklaw02_TermOnce : compF Tryd.prog (fun _ => false) d_proofmarklaw02_TermOnce 5 = some proofmarklaw02_TermOnce := by kernel_rfl
theorem b_proofmarklaw02_TermOnce : bodied Tryd.prog 5 = true := by kernel_rfl
def d_proofmarklaw02_TermGrows : Nat → List Nat := fun i => [[], [23, 24, 25, 26, 27, 28, 29], [31], [33, 34, 32, 35, 36, 6], [37, 38], [], [], [], [39, 40], [42, 43], [45, 46, 47, 44, 48, 49, 12], [50, 51, 52, 53], [54, 55, 56], [58], [59, 60, 61, 62, 63, 64], [], [65, 66, 67], [69, 70], [71, 72, 73, 74, 75, 76], [77, 78, 79], [], [], [81, 82], [84, 85], [86], [88, 89, 90, 87, 91, 92], [93, 94, 95, 96, 97, 98, 99, 100, 101, 102, 103, 104, 105, 106, 107, 108, 109, 110, 111], [], [113, 114, 115, 116], [117, 118, 119, 120, 121, 122, 123, 124, 125, 126, 127, 128], [], [], [], [130, 131, 132, 133], [135, 136], [137, 138, 139, 140, 141, 142, 143], [144, 145, 146, 147, 148, 149, 150, 151], [], [152, 153, 154], [156, 157], [158, 159, 160, 161, 162, 163], [], [165, 166, 167, 168, 169], [], [171]].getD i []
theorem e_proofmarklaw02_TermGrows : compF Tryd.prog (fun _ => false) d_proofmarklaw02_TermGrows 6 = some proofmarklaw02_TermGrows := by kernel_rfl
theorem b_proofmarklaw02_TermGrows : bodied Tryd.prog 6 = true := by kernel_rfl
def d_proofmarklaw02_TermKnown : Nat → List Nat := fun i => [[], [14, 15, 16, 17], [], [], [18], [20, 21], [], [22], [24, 25], [26, 27], [28], [30], [], [33], [34], [36], [37], [39], [40], [42], [43], [45], [46], [48], [49], [51], [52], [54], [55], [57], [58], [60], [61], [63], [64], [65, 66, 67, 68, 69, 70, 71, 72, 73, 74, 75, 76, 77, 78, 79, 80], [], [82, 83, 84, 85], [86], [87, 88, 89], [], [90], [92, 93], [94, 95, 96, 97, 98], [99, 100, 101], [102, 103, 104, 105, 106], [107, 108, 109], [], [111, 112, 110, 113, 114, 12], [115, 116, 117, 118, 119, 120, 121, 122, 123, 124, 125, 126, 127, 128, 129, 130, 131, 132, 133, 134, 135, 136, 137, 138, 139, 140, 141, 142, 143, 144, 145, 146, 147, 148, 149, 150, 151, 152, 153, 154, 155, 156, 157, 158, 159, 160, 161, 162, 163, 164, 165, 166]].getD i []
theorem e_proofmarklaw02_TermKnown : compF Tryd.prog (fun _ => false) d_proofmarklaw02_TermKnown 7 = some proofmarklaw02_TermKnown := by kernel_rfl
theorem b_proofmarklaw02_TermKnown : bodied Tryd.prog 7 = true := by kernel_rfl
def d_proofmarklaw02_works : Nat → List Nat := fun i => [[], [5, 6, 7, 8, 9, 10, 11, 12, 4, 13, 14], [15, 16, 17], [18, 19, 20, 21, 22, 23, 24, 25, 26, 27, 28, 29, 30, 31, 32, 33, 34, 35, 36, 37, 38, 39, 40, 41, 42, 43, 44, 45, 46, 47, 48, 49, 50, 51, 52, 53, 54, 55, 56, 57, 58, 59, 60, 61, 62, 63, 64, 65, 66, 67, 68, 69, 70, 71, 72]].getD i []
theorem e_proofmarklaw02_works : compF Tryd.prog (fun _ => false) d_proofmarklaw02_works 8 = some proofmarklaw02_works := by kernel_rfl
theorem b_proofmarklaw02_works : bodied Tryd.prog 8 = true := by kernel_rfl
def d_term_New : Nat → List Nat := fun i => [[], [1, 2, 3]].getD i []
theorem e_term_New : compF Tryd.prog (fun _ => false) d_term_New 9 = some term_New := by kernel_rfl
theorem b_term_New : bodied Tryd.prog 9 = true := by kernel_rfl
def d_term_Graph_Add : Nat → List Nat := fun i => [[], [12, 13, 14, 15, 16, 17, 18], [], [21, 22, 23, 24, 25, 26, 20, 27, 28], [], [30], [31, 32, 33, 34, 35], [36, 37, 38], [39], [], [44, 45], [46, 47, 48, 49, 50, 51, 52, 53, 54, 55, 56, 57, 58, 59, 60, 61, 62, 63], [64], [65, 66, 67, 68, 69, 70, 71, 72, 73, 74, 75, 76, 77, 78, 79, 80, 81, 82], [83, 84, 85, 86, 87, 88, 89, 90, 91, 92, 93, 94, 95, 96, 97, 98, 99, 100, 101, 102, 103, 104], [105]].getD i []
theorem e_term_Graph_Add : compF Tryd.prog (fun _ => false) d_term_Graph_Add 10 = some term_Graph_Add := by kernel_rfl
theorem b_term_Graph_Add : bodied Tryd.prog 10 = true := by kernel_rfl
def d_proofmarkref02_Graph_Add : Nat → List Nat := fun i => [[], [6, 7, 8], [], [], [10, 11, 12, 13, 14, 15], [17, 18], [19, 20, 21, 22, 23, 24, 25, 26], [28], [29, 30, 31, 32, 33, 34, 35, 36, 37, 38], [39, 40, 41, 42, 43, 44]].getD i []
theorem e_proofmarkref02_Graph_Add : compF Tryd.prog (fun _ => false) d_proofmarkref02_Graph_Add 11 = some proofmarkref02_Graph_Add := by kernel_rfl
theorem b_proofmarkref02_Graph_Add : bodied Tryd.prog 11 = true := by kernel_rfl
def d_proofmarkkit_PlainNode : Nat → List Nat := fun i => [[], [3, 4, 5, 6, 7, 8, 9, 10, 11, 12, 13, 14, 15]].getD i []
theorem e_proofmarkkit_PlainNode : compF Tryd.prog (fun _ => false) d_proofmarkkit_PlainNode 12 = some proofmarkkit_PlainNode := by kernel_rfl
theorem b_proofmarkkit_PlainNode : bodied Tryd.prog 12 = true := by kernel_rfl
def d_term_Graph_Size : Nat → List Nat := fun i => [[], [3], [], [5, 6, 7, 8, 9]].getD i []
theorem e_term_Graph_Size : compF Tryd.prog (fun _ => false) d_term_Graph_Size 13 = some term_Graph_Size := by kernel_rfl
theorem b_term_Graph_Size : bodied Tryd.prog 13 = true := by kernel_rfl
def d_term_Graph_Node : Nat → List Nat := fun i => [[], [6, 7, 8], [10], [11, 12, 13, 14, 15, 16, 17]].getD i []
theorem e_term_Graph_Node : compF Tryd.prog (fun _ => false) d_term_Graph_Node 14 = some term_Graph_Node := by kernel_rfl
theorem b_term_Graph_Node : bodied Tryd.prog 14 = true := by kernel_rfl
def d_proofmarkkit_Made : Nat → List Nat := fun i => [[], [7], [], [], [8, 9, 10], [12, 13], [14, 15, 16, 17, 18, 19, 20, 21, 22], [23, 24]].getD i []
theorem e_proofmarkkit_Made : compF Tryd.prog (fun _ => false) d_proofmarkkit_Made 15 = some proofmarkkit_Made := by kernel_rfl
theorem b_proofmarkkit_Made : bodied Tryd.prog 15 = true := by kernel_rfl
def d_proofmarkkit_Plain : Nat → List Nat := fun i => [[], [7, 8], [], [9, 10, 11], [13, 14], [16, 17, 18, 15, 19, 20, 6], [21, 22, 23, 24, 25, 26, 27, 28, 29, 30, 31], [32]].getD i []
theorem e_proofmarkkit_Plain : compF Tryd.prog (fun _ => false) d_proofmarkkit_Plain 16 = some proofmarkkit_Plain := by kernel_rfl
theorem b_proofmarkkit_Plain : bodied Tryd.prog 16 = true := by kernel_rfl
def d_term_Graph_Deep : Nat → List Nat := fun i => [[], [5, 6, 7], [], [9, 10, 11, 12, 13, 14, 15]].getD i []
theorem e_term_Graph_Deep : compF Tryd.prog (fun _ => false) d_term_Graph_Deep 17 = some term_Graph_Deep := by kernel_rfl
theorem b_term_Graph_Deep : bodied Tryd.prog 17 = true := by kernel_rfl
def d_proofmarkref02_Graph_Deep : Nat → List Nat := fun i => [[], [6, 7, 8, 9, 10, 11, 12], [], [14, 15, 16, 17, 18, 19, 20], [21], [24], [25, 26, 27, 28, 29], [31], [32, 33, 34, 35, 36, 37, 38, 39, 40, 41], []].getD i []
theorem e_proofmarkref02_Graph_Deep : compF Tryd.prog (fun _ => false) d_proofmarkref02_Graph_Deep 18 = some proofmarkref02_Graph_Deep := by kernel_rfl
theorem b_proofmarkref02_Graph_Deep : bodied Tryd.prog 18 = true := by kernel_rfl
def d_term_Graph_Text : Nat → List Nat := fun i => [[], [9, 10, 11, 12, 13, 14, 15, 16, 17, 18, 19, 20, 21], [], [23], [24, 25, 26], [], [31, 32], [33, 34, 35, 36, 37, 38, 39], [40, 41, 42, 43, 44, 45, 46, 47, 48, 49, 50, 51, 52, 53, 54], [55], [56, 57, 58, 59]].getD i []
theorem e_term_Graph_Text : compF Tryd.prog (fun _ => false) d_term_Graph_Text 19 = some term_Graph_Text := by kernel_rfl
theorem b_term_Graph_Text : bodied Tryd.prog 19 = true := by kernel_rfl
def d_proofmarkref02_Graph_Text : Nat → List Nat := fun i => [[], [5, 6, 7, 8, 9, 10, 11, 12, 13, 14, 15, 16, 17], [], [19, 20, 21]].getD i []
theorem e_proofmarkref02_Graph_Text : compF Tryd.prog (fun _ => false) d_proofmarkref02_Graph_Text 20 = some proofmarkref02_Graph_Text := by kernel_rfl
theorem b_proofmarkref02_Graph_Text : bodied Tryd.prog 20 = true := by kernel_rfl
def d_term_Graph_Uses : Nat → List Nat := fun i => [[], [10], [], [], [11], [], [], [16, 17], [18, 19, 20], [21], [22, 23], [24]].getD i []
theorem e_term_Graph_Uses : compF Tryd.prog (fun _ => false) d_term_Graph_Uses 21 = some term_Graph_Uses := by kernel_rfl
theorem b_term_Graph_Uses : bodied Tryd.prog 21 = true := by kernel_rfl
def d_proofmarkref02_Graph_Uses : Nat → List Nat := fun i => [[], [], [], [9, 10, 11, 12, 13, 14], [16, 17], [], [], [18, 19, 20], [22, 23], [24, 25, 26, 27, 28, 29, 30, 31, 32, 33, 34, 35, 36, 37, 38, 39, 40, 41, 42, 43, 44, 45], [], [47, 48, 49, 50], [51]].getD i []
theorem e_proofmarkref02_Graph_Uses : compF Tryd.prog (fun _ => false) d_proofmarkref02_Graph_Uses 22 = some proofmarkref02_Graph_Uses := by kernel_rfl
theorem b_proofmarkref02_Graph_Uses : bodied Tryd.prog 22 = true := by kernel_rfl
def d_proofmarklaw02_in : Nat → List Nat := fun i => [[], [], [6, 7, 8], [10, 11], [12, 13, 14, 15, 16], [], []].getD i []
theorem e_proofmarklaw02_in : compF Tryd.prog (fun _ => false) d_proofmarklaw02_in 23 = some proofmarklaw02_in := by kernel_rfl
theorem b_proofmarklaw02_in : bodied Tryd.prog 23 = true := by kernel_rfl
def d_term_Graph_may : Nat → List Nat := fun i => [[], [5, 6, 7], [], [9], [12], [], [14], [15, 16, 17], [19], [20, 21, 22, 23, 24, 25, 26, 27, 28, 29, 30, 31, 32, 33], [35], [36, 37, 38, 39, 40, 41, 42, 43, 44, 45, 46, 47, 48, 49, 50, 51, 52, 53, 54, 55], []].getD i []
theorem e_term_Graph_may : compF Tryd.prog (fun _ => false) d_term_Graph_may 24 = some term_Graph_may := by kernel_rfl
theorem b_term_Graph_may : bodied Tryd.prog 24 = true := by kernel_rfl
def d_term_words : Nat → List Nat := fun i => [[], [8, 9, 10], [11], [14], [15], [17], [18, 19], [21], [22, 23, 24, 25, 26, 27, 28, 29, 30, 31, 32], [33, 34, 35, 36, 37, 38, 39, 40, 41, 42, 43]].getD i []
theorem e_term_words : compF Tryd.prog (fun _ => false) d_term_words 25 = some term_words := by kernel_rfl
theorem b_term_words : bodied Tryd.prog 25 = true := by kernel_rfl
def d_term_parts : Nat → List Nat := fun i => [[], [3], [6], [7, 8, 9], [11], [12, 13, 14, 15, 16], []].getD i []
theorem e_term_parts : compF Tryd.prog (fun _ => false) d_term_parts 26 = some term_parts := by kernel_rfl
theorem b_term_parts : bodied Tryd.prog 26 = true := by kernel_rfl
def d_proofmarkref02_Graph_May : Nat → List Nat := fun i => [[], [7, 8, 9, 10, 11, 12, 13, 14, 15, 16, 17, 18, 19, 20, 21, 22], [23], [26], [27, 28, 29, 30, 31], [33], [34, 35, 36, 37, 38, 39, 40, 41, 42, 43], [45], [46, 47, 48, 49, 50, 51, 52, 53, 54, 55, 56, 57, 58, 59, 60, 61, 62, 63, 64, 65, 66, 67], [69], [70, 71, 72, 73, 74, 75, 76, 77, 78, 79, 80, 81, 82, 83, 84, 85, 86, 87, 88, 89, 90, 91, 92, 93, 94], []].getD i []
theorem e_proofmarkref02_Graph_May : compF Tryd.prog (fun _ => false) d_proofmarkref02_Graph_May 27 = some proofmarkref02_Graph_May := by kernel_rfl
theorem b_proofmarkref02_Graph_May : bodied Tryd.prog 27 = true := by kernel_rfl
def d_term_Graph_is : Nat → List Nat := fun i => [[], [5, 6, 7, 8, 9, 10, 11, 12, 13, 14, 15, 16, 17, 18, 19]].getD i []
theorem e_term_Graph_is : compF Tryd.prog (fun _ => false) d_term_Graph_is 28 = some term_Graph_is := by kernel_rfl
theorem b_term_Graph_is : bodied Tryd.prog 28 = true := by kernel_rfl
def d_proofmarkref02_has : Nat → List Nat := fun i => [[], [5, 6, 7, 8, 9, 10, 11]].getD i []
theorem e_proofmarkref02_has : compF Tryd.prog (fun _ => false) d_proofmarkref02_has 29 = some proofmarkref02_has := by kernel_rfl
theorem b_proofmarkref02_has : bodied Tryd.prog 29 = true := by kernel_rfl
def d_proofmarkref02_Graph_Long : Nat → List Nat := fun i => [[], [6, 7, 8, 9, 10, 11, 12], [13], [16], [17, 18, 19, 20, 21, 22, 23, 24, 25, 26, 27, 28, 29, 30, 31, 32], [34], [35, 36, 37, 38, 39, 40, 41, 42, 43, 44, 45, 46, 47, 48, 49, 50], [51, 52, 53, 54]].getD i []
theorem e_proofmarkref02_Graph_Long : compF Tryd.prog (fun _ => false) d_proofmarkref02_Graph_Long 30 = some proofmarkref02_Graph_Long := by kernel_rfl
theorem b_proofmarkref02_Graph_Long : bodied Tryd.prog 30 = true := by kernel_rfl
def d_proofmarkref02_Graph_text : Nat → List Nat := fun i => [[], [7, 8, 9, 10, 11, 12, 13], [14, 15, 16], [17], [20], [21], [23], [24, 25], [27], [28, 29, 30, 31, 32, 33, 34, 35, 36, 37, 38, 39, 40, 41], [42, 43, 44, 45, 46, 47, 48, 49, 50, 51, 52, 53, 54, 55, 56, 57, 58]].getD i []
theorem e_proofmarkref02_Graph_text : compF Tryd.prog (fun _ => false) d_proofmarkref02_Graph_text 31 = some proofmarkref02_Graph_text := by kernel_rfl
theorem b_proofmarkref02_Graph_text : bodied Tryd.prog 31 = true := by kernel_rfl
def d_term_Graph_Uses_S1 : Nat → List Nat := fun i => [[8, 9, 10, 11, 12, 13, 14, 15, 16], [18, 19], [20, 21, 22, 23], [24, 25, 26, 27, 28, 29, 30], [], [35, 36], [37, 38, 39], [40]].getD i []
theorem e_term_Graph_Uses_S1 : compF Tryd.prog (fun _ => false) d_term_Graph_Uses_S1 32 = some term_Graph_Uses_S1 := by kernel_rfl
theorem b_term_Graph_Uses_S1 : bodied Tryd.prog 32 = true := by kernel_rfl
def d_slices_Sort_term_ID_term_ID : Nat → List Nat := fun i => [[3, 4], [5, 6, 7, 8, 9, 10]].getD i []
theorem e_slices_Sort_term_ID_term_ID : compF Tryd.prog (fun _ => false) d_slices_Sort_term_ID_term_ID 33 = some slices_Sort_term_ID_term_ID := by kernel_rfl
theorem b_slices_Sort_term_ID_term_ID : bodied Tryd.prog 33 = true := by kernel_rfl
def d_proofmarkref02_Graph_uses : Nat → List Nat := fun i => [[], [8, 9], [], [11, 12, 13, 14, 15, 16, 17], [18, 19, 20, 21, 22, 23, 24, 25, 26, 27, 28, 29, 30, 31, 32, 33, 34, 35, 36, 37, 38, 39]].getD i []
theorem e_proofmarkref02_Graph_uses : compF Tryd.prog (fun _ => false) d_proofmarkref02_Graph_uses 34 = some proofmarkref02_Graph_uses := by kernel_rfl
theorem b_proofmarkref02_Graph_uses : bodied Tryd.prog 34 = true := by kernel_rfl
def d_term_bare : Nat → List Nat := fun i => [[], [3], [6], [7], [8], [10], [11, 12, 13], [15], [16, 17, 18], [19], [20]].getD i []
theorem e_term_bare : compF Tryd.prog (fun _ => false) d_term_bare 35 = some term_bare := by kernel_rfl
theorem b_term_bare : bodied Tryd.prog 35 = true := by kernel_rfl
def d_strconv_FormatInt : Nat → List Nat := fun i => [[], [5, 6, 7]].getD i []
theorem e_strconv_FormatInt : compF Tryd.prog (fun _ => false) d_strconv_FormatInt 36 = some strconv_FormatInt := by kernel_rfl
theorem b_strconv_FormatInt : bodied Tryd.prog 36 = true := by kernel_rfl
def d_strconv_Itoa : Nat → List Nat := fun i => [[], [3, 4]].getD i []
theorem e_strconv_Itoa : compF Tryd.prog (fun _ => false) d_strconv_Itoa 37 = some strconv_Itoa := by kernel_rfl
theorem b_strconv_Itoa : bodied Tryd.prog 37 = true := by kernel_rfl
def d_term_sign : Nat → List Nat := fun i => [[], [3, 4, 5]].getD i []
theorem e_term_sign : compF Tryd.prog (fun _ => false) d_term_sign 38 = some term_sign := by kernel_rfl
theorem b_term_sign : bodied Tryd.prog 38 = true := by kernel_rfl
def d_proofmarkref02_Sign : Nat → List Nat := fun i => [[], [3, 4, 5, 6]].getD i []
theorem e_proofmarkref02_Sign : compF Tryd.prog (fun _ => false) d_proofmarkref02_Sign 39 = some proofmarkref02_Sign := by kernel_rfl
theorem b_proofmarkref02_Sign : bodied Tryd.prog 39 = true := by kernel_rfl
def d_slices_pdqsortOrdered_term_ID : Nat → List Nat := fun i => [[], [], [19, 20, 21], [22], [24, 25, 26, 27], [28], [30, 31, 32, 33], [34], [36, 37, 38, 39], [40, 41], [43, 44, 45, 46, 42, 47, 48], [49], [51, 52, 53, 54], [55, 56, 57, 58, 59, 60], [], [61, 62, 63, 64, 65, 66, 67], [69, 70, 71], [73, 74, 75, 76, 77, 78, 79, 80, 81, 82, 83, 84, 85, 86], [88, 89, 90, 91, 92], [93], [95, 96, 97, 98, 99, 94, 100, 101], [102], [103, 104, 105, 106, 107, 108], [109, 110], [111, 112], [114, 115, 116], [117, 118, 119, 120, 121], [122, 123], [124, 125, 126], [127, 128, 129, 130, 131, 132], [133]].getD i []
theorem e_slices_pdqsortOrdered_term_ID : compF Tryd.prog (fun _ => false) d_slices_pdqsortOrdered_term_ID 40 = some slices_pdqsortOrdered_term_ID := by kernel_rfl
theorem b_slices_pdqsortOrdered_term_ID : bodied Tryd.prog 40 = true := by kernel_rfl
def d_math_bits_Len : Nat → List Nat := fun i => [[], [3, 4, 5], [6, 7]].getD i []
theorem e_math_bits_Len : compF Tryd.prog (fun _ => false) d_math_bits_Len 41 = some math_bits_Len := by kernel_rfl
theorem b_math_bits_Len : bodied Tryd.prog 41 = true := by kernel_rfl
def d_internal_strconv_FormatInt : Nat → List Nat := fun i => [[], [10], [12, 13, 14, 15, 16], [18, 19], [], [20, 21], [22], [24, 25], [26, 27], [28, 29, 30, 31, 32], [33], [35], [36, 37, 38, 39], [40, 41, 42, 43], [45, 46, 47, 48, 49, 50, 44, 51, 52, 8], [53]].getD i []
theorem e_internal_strconv_FormatInt : compF Tryd.prog (fun _ => false) d_internal_strconv_FormatInt 42 = some internal_strconv_FormatInt := by kernel_rfl
theorem b_internal_strconv_FormatInt : bodied Tryd.prog 42 = true := by kernel_rfl
def d_internal_strconv_Itoa : Nat → List Nat := fun i => [[], [3, 4]].getD i []
theorem e_internal_strconv_Itoa : compF Tryd.prog (fun _ => false) d_internal_strconv_Itoa 43 = some internal_strconv_Itoa := by kernel_rfl
theorem b_internal_strconv_Itoa : bodied Tryd.prog 43 = true := by kernel_rfl
def d_slices_insertionSortOrdered_term_ID : Nat → List Nat := fun i => [[8, 9], [10, 11], [13, 14], [15], [16, 17, 18, 19, 20, 21, 22, 23, 24, 25, 26, 27, 28, 29], [31, 32], [33, 34, 35, 36, 37, 38, 39, 40, 41, 42, 43, 44, 45, 46, 47, 48]].getD i []
theorem e_slices_insertionSortOrdered_term_ID : compF Tryd.prog (fun _ => false) d_slices_insertionSortOrdered_term_ID 44 = some slices_insertionSortOrdered_term_ID := by kernel_rfl
theorem b_slices_insertionSortOrdered_term_ID : bodied Tryd.prog 44 = true := by kernel_rfl
def d_slices_heapSortOrdered_term_ID : Nat → List Nat := fun i => [[11], [], [12, 13, 14], [15, 16, 17], [18], [20, 21], [22, 23, 24, 25, 26], [27, 28], [29], [31, 32], [33, 34, 35, 36, 37, 38, 39, 40, 41, 42, 43, 44, 45, 46, 47, 48, 49, 50], [51, 52, 53, 54, 55]].getD i []
theorem e_slices_heapSortOrdered_term_ID : compF Tryd.prog (fun _ => false) d_slices_heapSortOrdered_term_ID 45 = some slices_heapSortOrdered_term_ID := by kernel_rfl
theorem b_slices_heapSortOrdered_term_ID : bodied Tryd.prog 45 = true := by kernel_rfl
def d_slices_breakPatternsOrdered_term_ID : Nat → List Nat := fun i => [[11, 12, 13], [14], [16, 17], [18, 19], [20, 21, 22, 23, 24, 25], [26, 27, 28, 29, 30, 31, 32], [34, 35], [36, 37, 38, 39, 40], [41, 42], [44, 45, 46], [47, 48, 49, 50, 51, 52, 53, 54, 55, 56, 57, 58, 59, 60, 61, 62, 63, 64]].getD i []
theorem e_slices_breakPatternsOrdered_term_ID : compF Tryd.prog (fun _ => false) d_slices_breakPatternsOrdered_term_ID 46 = some slices_breakPatternsOrdered_term_ID := by kernel_rfl
theorem b_slices_breakPatternsOrdered_term_ID : bodied Tryd.prog 46 = true := by kernel_rfl
def d_slices_choosePivotOrdered_term_ID : Nat → List Nat := fun i => [[], [13, 14, 15], [], [16, 17, 18, 19, 20], [21, 22, 23, 24, 25], [26, 27, 28, 29, 30], [31], [33], [35, 36, 37], [38, 39, 40], [41, 42, 43], [44, 45, 46, 47, 48], [], [50], [52], [53], [55], [56]].getD i []
theorem e_slices_choosePivotOrdered_term_ID : compF Tryd.prog (fun _ => false) d_slices_choosePivotOrdered_term_ID 47 = some slices_choosePivotOrdered_term_ID := by kernel_rfl
theorem b_slices_choosePivotOrdered_term_ID : bodied Tryd.prog 47 = true := by kernel_rfl
def d_slices_reverseRangeOrdered_term_ID : Nat → List Nat := fun i => [[8], [9, 10], [11, 12], [14, 15, 16, 17, 18, 19, 20, 21, 22, 23, 24, 25, 26, 27], [28, 29], [30, 31]].getD i []
theorem e_slices_reverseRangeOrdered_term_ID : compF Tryd.prog (fun _ => false) d_slices_reverseRangeOrdered_term_ID 48 = some slices_reverseRangeOrdered_term_ID := by kernel_rfl
theorem b_slices_reverseRangeOrdered_term_ID : bodied Tryd.prog 48 = true := by kernel_rfl
def d_slices_partialInsertionSortOrdered_term_ID : Nat → List Nat := fun i => [[], [11, 12], [], [13], [15, 16], [17, 18, 19, 20, 21, 22, 23, 24, 25, 26, 27, 28, 29, 30, 31], [33, 34], [35, 36], [], [38, 39, 40], [], [42, 43, 44, 45, 46, 47, 48, 49, 50, 51, 52, 53, 54, 55, 56, 57], [58, 59, 60], [62, 63], [64], [66, 67], [68, 69, 70, 71, 72, 73, 74, 75, 76, 77], [79, 80, 81, 82, 83, 84, 85, 86, 87, 88, 89, 90, 91, 92, 93, 94], [95, 96, 97], [99, 100], [101, 102], [104, 105], [106, 107, 108, 109, 110, 111, 112, 113, 114, 115], [117, 118, 119, 120, 121, 122, 123, 124, 125, 126, 127, 128, 129, 130, 131, 132], []].getD i []
theorem e_slices_partialInsertionSortOrdered_term_ID : compF Tryd.prog (fun _ => false) d_slices_partialInsertionSortOrdered_term_ID 49 = some slices_partialInsertionSortOrdered_term_ID := by kernel_rfl
theorem b_slices_partialInsertionSortOrdered_term_ID : bodied Tryd.prog 49 = true := by kernel_rfl
def d_cmp_Less_term_ID : Nat → List Nat := fun i => [[], [5, 6, 7, 8, 9, 10, 11, 12, 13, 14, 15, 16]].getD i []
theorem e_cmp_Less_term_ID : compF Tryd.prog (fun _ => false) d_cmp_Less_term_ID 50 = some cmp_Less_term_ID := by kernel_rfl
theorem b_cmp_Less_term_ID : bodied Tryd.prog 50 = true := by kernel_rfl
def d_slices_partitionEqualOrdered_term_ID : Nat → List Nat := fun i => [[], [11, 12, 13, 14, 15, 16, 17, 18, 19, 20, 21, 22, 23, 24], [25, 26, 27, 28], [29, 30, 31, 32, 33, 34, 35, 36, 37, 38, 39, 40, 41, 42], [44, 45], [46, 47, 48, 49, 50, 51, 52, 53, 54, 55, 56, 57, 58], [60, 61], [62, 63], [65, 66, 67, 68, 69, 70, 71, 72, 73, 74, 75, 76, 77, 78], [79, 80], [81, 82], [83]].getD i []
theorem e_slices_partitionEqualOrdered_term_ID : compF Tryd.prog (fun _ => false) d_slices_partitionEqualOrdered_term_ID 51 = some slices_partitionEqualOrdered_term_ID := by kernel_rfl
theorem b_slices_partitionEqualOrdered_term_ID : bodied Tryd.prog 51 = true := by kernel_rfl
def d_slices_partitionOrdered_term_ID : Nat → List Nat := fun i => [[], [12, 13, 14, 15, 16, 17, 18, 19, 20, 21, 22, 23, 24, 25], [26, 27, 28, 29], [30, 31, 32, 33, 34, 35, 36, 37, 38, 39, 40, 41, 42], [44, 45], [46, 47, 48, 49, 50, 51, 52, 53, 54, 55, 56, 57, 58, 59], [61, 62], [63, 64], [66, 67, 68, 69, 70, 71, 72, 73, 74, 75, 76, 77, 78, 79], [80], [81, 82, 83, 84, 85, 86, 87, 88, 89, 90, 91, 92, 93, 94], [95, 96], [97, 98], [99, 100, 101, 102, 103, 104, 105, 106, 107, 108, 109, 110, 111], [113, 114], [115, 116, 117, 118, 119, 120, 121, 122, 123, 124, 125, 126, 127, 128], [130, 131], [132, 133], [135, 136, 137, 138, 139, 140, 141, 142, 143, 144, 145, 146, 147, 148], [149, 150], [151, 152], [153, 154, 155, 156, 157, 158, 159, 160, 161, 162, 163, 164, 165, 166], [167]].getD i []
theorem e_slices_partitionOrdered_term_ID : compF Tryd.prog (fun _ => false) d_slices_partitionOrdered_term_ID 52 = some slices_partitionOrdered_term_ID := by kernel_rfl
theorem b_slices_partitionOrdered_term_ID : bodied Tryd.prog 52 = true := by kernel_rfl
def d_math_bits_Len32 : Nat → List Nat := fun i => [[], [3], [5, 6], [], [7], [9, 10], [11, 12], [13, 14, 15, 16, 17, 18]].getD i []
theorem e_math_bits_Len32 : compF Tryd.prog (fun _ => false) d_math_bits_Len32 53 = some math_bits_Len32 := by kernel_rfl
theorem b_math_bits_Len32 : bodied Tryd.prog 53 = true := by kernel_rfl
def d_math_bits_Len64 : Nat → List Nat := fun i => [[], [3], [5, 6], [], [7], [9, 10], [11, 12], [13], [15, 16], [17, 18], [19, 20, 21, 22, 23, 24]].getD i []
theorem e_math_bits_Len64 : compF Tryd.prog (fun _ => false) d_math_bits_Len64 54 = some math_bits_Len64 := by kernel_rfl
theorem b_math_bits_Len64 : bodied Tryd.prog 54 = true := by kernel_rfl
def d_internal_strconv_small : Nat → List Nat := fun i => [[], [3], [5, 6, 7, 8], [9, 10, 11, 12, 13, 14]].getD i []
theorem e_internal_strconv_small : compF Tryd.prog (fun _ => false) d_internal_strconv_small 55 = some internal_strconv_small := by kernel_rfl
theorem b_internal_strconv_small : bodied Tryd.prog 55 = true := by kernel_rfl
def d_internal_strconv_numDigits : Nat → List Nat := fun i => [[], [4, 5, 6], [7, 8, 9, 10, 11, 12, 13, 14]].getD i []
theorem e_internal_strconv_numDigits : compF Tryd.prog (fun _ => false) d_internal_strconv_numDigits 56 = some internal_strconv_numDigits := by kernel_rfl
theorem b_internal_strconv_numDigits : bodied Tryd.prog 56 = true := by kernel_rfl
def d_internal_strconv_formatBase10 : Nat → List Nat := fun i => [[17, 18], [19], [21, 22, 23], [24, 25], [26, 27, 28, 29], [30, 31, 32, 33, 34, 35], [36, 37, 38, 39, 40, 41], [42, 43, 44, 45, 46, 47, 48, 49, 50, 51, 52, 53, 54], [55, 56, 57, 58, 59, 60, 61, 62, 63, 64, 65, 66, 67], [68, 69, 70, 71, 72, 73, 74, 75, 76, 77, 78, 79, 80], [81, 82, 83, 84, 85, 86, 87, 88, 89, 90, 91, 92, 93], [94, 95], [96, 97], [98], [100, 101], [102, 103], [104, 105, 106, 107, 108, 109], [110, 111, 112, 113, 114, 115, 116, 117, 118, 119, 120, 121, 122], [123, 124, 125, 126, 127, 128, 129, 130, 131, 132, 133, 134, 135], [136, 137], [138], [140, 141, 142], [143, 144], [145, 146, 147, 148, 149, 150, 151, 152, 153, 154, 155, 156, 157], [158, 159], [160], [162, 163, 164, 165, 166]].getD i []
theorem e_internal_strconv_formatBase10 : compF Tryd.prog (fun _ => false) d_internal_strconv_formatBase10 57 = some internal_strconv_formatBase10 := by kernel_rfl
theorem b_internal_strconv_formatBase10 : bodied Tryd.prog 57 = true := by kernel_rfl
def d_internal_strconv_formatBits : Nat → List Nat := fun i => [[], [19, 20, 21, 22, 23, 24, 25, 26, 27], [29], [], [], [], [31, 32], [33], [35, 36, 37, 38], [39, 40], [41, 42, 43], [44, 45], [47, 48], [49, 50, 51, 52, 53, 54], [55, 56, 57], [58, 59], [60, 61, 62, 63], [64, 65], [66, 67], [69, 70], [71, 72, 73], [74, 75, 76, 77, 78, 79, 80, 81], [82], [83, 84], [85, 86, 87, 88], [], [90, 91], [92, 93], [], [95, 96, 97, 98], [99, 100, 101]].getD i []
theorem e_internal_strconv_formatBits : compF Tryd.prog (fun _ => false) d_internal_strconv_formatBits 58 = some internal_strconv_formatBits := by kernel_rfl
theorem b_internal_strconv_formatBits : bodied Tryd.prog 58 = true := by kernel_rfl
def d_slices_siftDownOrdered_term_ID : Nat → List Nat := fun i => [[10], [11, 12, 13], [14, 15], [17, 18, 19, 20, 21, 22, 23, 24, 25, 26, 27, 28, 29, 30, 31, 32, 33, 34, 35], [37, 38], [39, 40, 41, 42, 43, 44, 45, 46, 47, 48, 49, 50, 51], [53, 54, 55, 56, 57, 58, 59, 60, 61, 62, 63, 64, 65, 66, 67, 68, 69, 70, 71, 72, 73, 74], [75]].getD i []
theorem e_slices_siftDownOrdered_term_ID : compF Tryd.prog (fun _ => false) d_slices_siftDownOrdered_term_ID 59 = some slices_siftDownOrdered_term_ID := by kernel_rfl
theorem b_slices_siftDownOrdered_term_ID : bodied Tryd.prog 59 = true := by kernel_rfl
def d_slices_nextPowerOfTwo : Nat → List Nat := fun i => [[], [3, 4, 5, 6]].getD i []
theorem e_slices_nextPowerOfTwo : compF Tryd.prog (fun _ => false) d_slices_nextPowerOfTwo 60 = some slices_nextPowerOfTwo := by kernel_rfl
theorem b_slices_nextPowerOfTwo : bodied Tryd.prog 60 = true := by kernel_rfl
def d_slices_xorshift_Next : Nat → List Nat := fun i => [[], [3, 4, 5, 6, 7, 8, 9, 10, 11], [12, 13, 14, 15, 16, 17, 18, 19, 20], [21, 22, 23, 24, 25, 26, 27, 28, 29], [30, 31, 32]].getD i []
theorem e_slices_xorshift_Next : compF Tryd.prog (fun _ => false) d_slices_xorshift_Next 61 = some slices_xorshift_Next := by kernel_rfl
theorem b_slices_xorshift_Next : bodied Tryd.prog 61 = true := by kernel_rfl
def d_slices_medianAdjacentOrdered_term_ID : Nat → List Nat := fun i => [[], [7, 8, 9, 10, 11, 12, 13, 14]].getD i []
theorem e_slices_medianAdjacentOrdered_term_ID : compF Tryd.prog (fun _ => false) d_slices_medianAdjacentOrdered_term_ID 62 = some slices_medianAdjacentOrdered_term_ID := by kernel_rfl
theorem b_slices_medianAdjacentOrdered_term_ID : bodied Tryd.prog 62 = true := by kernel_rfl
def d_slices_medianOrdered_term_ID : Nat → List Nat := fun i => [[], [12, 13, 14, 15, 16, 11, 17, 18], [20, 21, 22, 23, 24, 19, 25, 26], [28, 29, 30, 31, 32, 27, 33, 34], [35]].getD i []
theorem e_slices_medianOrdered_term_ID : compF Tryd.prog (fun _ => false) d_slices_medianOrdered_term_ID 63 = some slices_medianOrdered_term_ID := by kernel_rfl
theorem b_slices_medianOrdered_term_ID : bodied Tryd.prog 63 = true := by kernel_rfl
def d_cmp_isNaN_term_ID : Nat → List Nat := fun i => [[], [3, 4, 5]].getD i []
theorem e_cmp_isNaN_term_ID : compF Tryd.prog (fun _ => false) d_cmp_isNaN_term_ID 64 = some cmp_isNaN_term_ID := by kernel_rfl
theorem b_cmp_isNaN_term_ID : bodied Tryd.prog 64 = true := by kernel_rfl
def d_internal_strconv_log10Pow2 : Nat → List Nat := fun i => [[], [3, 4, 5]].getD i []
theorem e_internal_strconv_log10Pow2 : compF Tryd.prog (fun _ => false) d_internal_strconv_log10Pow2 65 = some internal_strconv_log10Pow2 := by kernel_rfl
theorem b_internal_strconv_log10Pow2 : bodied Tryd.prog 65 = true := by kernel_rfl
def d_internal_strconv_bool2_int : Nat → List Nat := fun i => [[], [], [], []].getD i []
theorem e_internal_strconv_bool2_int : compF Tryd.prog (fun _ => false) d_internal_strconv_bool2_int 66 = some internal_strconv_bool2_int := by kernel_rfl
theorem b_internal_strconv_bool2_int : bodied Tryd.prog 66 = true := by kernel_rfl
def d_internal_strconv_isPowerOfTwo : Nat → List Nat := fun i => [[], [3, 4, 5, 6, 7]].getD i []
theorem e_internal_strconv_isPowerOfTwo : compF Tryd.prog (fun _ => false) d_internal_strconv_isPowerOfTwo 67 = some internal_strconv_isPowerOfTwo := by kernel_rfl
theorem b_internal_strconv_isPowerOfTwo : bodied Tryd.prog 67 = true := by kernel_rfl
def d_math_bits_TrailingZeros : Nat → List Nat := fun i => [[], [3, 4, 5], [6, 7]].getD i []
theorem e_math_bits_TrailingZeros : compF Tryd.prog (fun _ => false) d_math_bits_TrailingZeros 68 = some math_bits_TrailingZeros := by kernel_rfl
theorem b_math_bits_TrailingZeros : bodied Tryd.prog 68 = true := by kernel_rfl
def d_slices_order2Ordered_term_ID : Nat → List Nat := fun i => [[], [10, 11, 12, 13, 14, 15, 16, 17], [19, 20, 21, 22, 23], [24, 25], [26, 27]].getD i []
theorem e_slices_order2Ordered_term_ID : compF Tryd.prog (fun _ => false) d_slices_order2Ordered_term_ID 69 = some slices_order2Ordered_term_ID := by kernel_rfl
theorem b_slices_order2Ordered_term_ID : bodied Tryd.prog 69 = true := by kernel_rfl
def d_math_bits_TrailingZeros32 : Nat → List Nat := fun i => [[], [3], [], [5, 6, 7, 8, 9, 10, 11, 12, 13]].getD i []
theorem e_math_bits_TrailingZeros32 : compF Tryd.prog (fun _ => false) d_math_bits_TrailingZeros32 70 = some math_bits_TrailingZeros32 := by kernel_rfl
theorem b_math_bits_TrailingZeros32 : bodied Tryd.prog 70 = true := by kernel_rfl
def d_math_bits_TrailingZeros64 : Nat → List Nat := fun i => [[], [3], [], [5, 6, 7, 8, 9, 10, 11, 12, 13]].getD i []
theorem e_math_bits_TrailingZeros64 : compF Tryd.prog (fun _ => false) d_math_bits_TrailingZeros64 71 = some math_bits_TrailingZeros64 := by kernel_rfl
theorem b_math_bits_TrailingZeros64 : bodied Tryd.prog 71 = true := by kernel_rfl
def d_gosem_cut_vars : Nat → List Nat := fun i => [[0], [1], [2]].getD i []
theorem e_gosem_cut_vars : compF Tryd.prog (fun _ => false) d_gosem_cut_vars 93 = some gosem_cut_vars := by kernel_rfl
theorem b_gosem_cut_vars : bodied Tryd.prog 93 = true := by kernel_rfl
theorem tab_ok : TabOk Tryd.prog tab := fun f A h => by
  unfold tab at h
  split at h
  · cases h; exact ⟨b_proofmarklaw02_TermAdds, _, _, e_proofmarklaw02_TermAdds⟩
  · cases h; exact ⟨b_proofmarklaw02_TermTells, _, _, e_proofmarklaw02_TermTells⟩
  · cases h; exact ⟨b_proofmarklaw02_TermOnce, _, _, e_proofmarklaw02_TermOnce⟩
  · cases h; exact ⟨b_proofmarklaw02_TermGrows, _, _, e_proofmarklaw02_TermGrows⟩
  · cases h; exact ⟨b_proofmarklaw02_TermKnown, _, _, e_proofmarklaw02_TermKnown⟩
  · cases h; exact ⟨b_proofmarklaw02_works, _, _, e_proofmarklaw02_works⟩
  · cases h; exact ⟨b_term_New, _, _, e_term_New⟩
  · cases h; exact ⟨b_term_Graph_Add, _, _, e_term_Graph_Add⟩
  · cases h; exact ⟨b_proofmarkref02_Graph_Add, _, _, e_proofmarkref02_Graph_Add⟩
  · cases h; exact ⟨b_proofmarkkit_PlainNode, _, _, e_proofmarkkit_PlainNode⟩
  · cases h; exact ⟨b_term_Graph_Size, _, _, e_term_Graph_Size⟩
  · cases h; exact ⟨b_term_Graph_Node, _, _, e_term_Graph_Node⟩
  · cases h; exact ⟨b_proofmarkkit_Made, _, _, e_proofmarkkit_Made⟩
  · cases h; exact ⟨b_proofmarkkit_Plain, _, _, e_proofmarkkit_Plain⟩
  · cases h; exact ⟨b_term_Graph_Deep, _, _, e_term_Graph_Deep⟩
  · cases h; exact ⟨b_proofmarkref02_Graph_Deep, _, _, e_proofmarkref02_Graph_Deep⟩
  · cases h; exact ⟨b_term_Graph_Text, _, _, e_term_Graph_Text⟩
  · cases h; exact ⟨b_proofmarkref02_Graph_Text, _, _, e_proofmarkref02_Graph_Text⟩
  · cases h; exact ⟨b_term_Graph_Uses, _, _, e_term_Graph_Uses⟩
  · cases h; exact ⟨b_proofmarkref02_Graph_Uses, _, _, e_proofmarkref02_Graph_Uses⟩
  · cases h; exact ⟨b_proofmarklaw02_in, _, _, e_proofmarklaw02_in⟩
  · cases h; exact ⟨b_term_Graph_may, _, _, e_term_Graph_may⟩
  · cases h; exact ⟨b_term_words, _, _, e_term_words⟩
  · cases h; exact ⟨b_term_parts, _, _, e_term_parts⟩
  · cases h; exact ⟨b_proofmarkref02_Graph_May, _, _, e_proofmarkref02_Graph_May⟩
  · cases h; exact ⟨b_term_Graph_is, _, _, e_term_Graph_is⟩
  · cases h; exact ⟨b_proofmarkref02_has, _, _, e_proofmarkref02_has⟩
  · cases h; exact ⟨b_proofmarkref02_Graph_Long, _, _, e_proofmarkref02_Graph_Long⟩
  · cases h; exact ⟨b_proofmarkref02_Graph_text, _, _, e_proofmarkref02_Graph_text⟩
  · cases h; exact ⟨b_term_Graph_Uses_S1, _, _, e_term_Graph_Uses_S1⟩
  · cases h; exact ⟨b_slices_Sort_term_ID_term_ID, _, _, e_slices_Sort_term_ID_term_ID⟩
  · cases h; exact ⟨b_proofmarkref02_Graph_uses, _, _, e_proofmarkref02_Graph_uses⟩
  · cases h; exact ⟨b_term_bare, _, _, e_term_bare⟩
  · cases h; exact ⟨b_strconv_FormatInt, _, _, e_strconv_FormatInt⟩
  · cases h; exact ⟨b_strconv_Itoa, _, _, e_strconv_Itoa⟩
  · cases h; exact ⟨b_term_sign, _, _, e_term_sign⟩
  · cases h; exact ⟨b_proofmarkref02_Sign, _, _, e_proofmarkref02_Sign⟩
  · cases h; exact ⟨b_slices_pdqsortOrdered_term_ID, _, _, e_slices_pdqsortOrdered_term_ID⟩
  · cases h; exact ⟨b_math_bits_Len, _, _, e_math_bits_Len⟩
  · cases h; exact ⟨b_internal_strconv_FormatInt, _, _, e_internal_strconv_FormatInt⟩
  · cases h; exact ⟨b_internal_strconv_Itoa, _, _, e_internal_strconv_Itoa⟩
  · cases h; exact ⟨b_slices_insertionSortOrdered_term_ID, _, _, e_slices_insertionSortOrdered_term_ID⟩
  · cases h; exact ⟨b_slices_heapSortOrdered_term_ID, _, _, e_slices_heapSortOrdered_term_ID⟩
  · cases h; exact ⟨b_slices_breakPatternsOrdered_term_ID, _, _, e_slices_breakPatternsOrdered_term_ID⟩
  · cases h; exact ⟨b_slices_choosePivotOrdered_term_ID, _, _, e_slices_choosePivotOrdered_term_ID⟩
  · cases h; exact ⟨b_slices_reverseRangeOrdered_term_ID, _, _, e_slices_reverseRangeOrdered_term_ID⟩
  · cases h; exact ⟨b_slices_partialInsertionSortOrdered_term_ID, _, _, e_slices_partialInsertionSortOrdered_term_ID⟩
  · cases h; exact ⟨b_cmp_Less_term_ID, _, _, e_cmp_Less_term_ID⟩
  · cases h; exact ⟨b_slices_partitionEqualOrdered_term_ID, _, _, e_slices_partitionEqualOrdered_term_ID⟩
  · cases h; exact ⟨b_slices_partitionOrdered_term_ID, _, _, e_slices_partitionOrdered_term_ID⟩
  · cases h; exact ⟨b_math_bits_Len32, _, _, e_math_bits_Len32⟩
  · cases h; exact ⟨b_math_bits_Len64, _, _, e_math_bits_Len64⟩
  · cases h; exact ⟨b_internal_strconv_small, _, _, e_internal_strconv_small⟩
  · cases h; exact ⟨b_internal_strconv_numDigits, _, _, e_internal_strconv_numDigits⟩
  · cases h; exact ⟨b_internal_strconv_formatBase10, _, _, e_internal_strconv_formatBase10⟩
  · cases h; exact ⟨b_internal_strconv_formatBits, _, _, e_internal_strconv_formatBits⟩
  · cases h; exact ⟨b_slices_siftDownOrdered_term_ID, _, _, e_slices_siftDownOrdered_term_ID⟩
  · cases h; exact ⟨b_slices_nextPowerOfTwo, _, _, e_slices_nextPowerOfTwo⟩
  · cases h; exact ⟨b_slices_xorshift_Next, _, _, e_slices_xorshift_Next⟩
  · cases h; exact ⟨b_slices_medianAdjacentOrdered_term_ID, _, _, e_slices_medianAdjacentOrdered_term_ID⟩
  · cases h; exact ⟨b_slices_medianOrdered_term_ID, _, _, e_slices_medianOrdered_term_ID⟩
  · cases h; exact ⟨b_cmp_isNaN_term_ID, _, _, e_cmp_isNaN_term_ID⟩
  · cases h; exact ⟨b_internal_strconv_log10Pow2, _, _, e_internal_strconv_log10Pow2⟩
  · cases h; exact ⟨b_internal_strconv_bool2_int, _, _, e_internal_strconv_bool2_int⟩
  · cases h; exact ⟨b_internal_strconv_isPowerOfTwo, _, _, e_internal_strconv_isPowerOfTwo⟩
  · cases h; exact ⟨b_math_bits_TrailingZeros, _, _, e_math_bits_TrailingZeros⟩
  · cases h; exact ⟨b_slices_order2Ordered_term_ID, _, _, e_slices_order2Ordered_term_ID⟩
  · cases h; exact ⟨b_math_bits_TrailingZeros32, _, _, e_math_bits_TrailingZeros32⟩
  · cases h; exact ⟨b_math_bits_TrailingZeros64, _, _, e_math_bits_TrailingZeros64⟩
  · cases h; exact ⟨b_gosem_cut_vars, _, _, e_gosem_cut_vars⟩
  · cases h
end Go.Proofs.YtchcnfokhagpkaaDoor
