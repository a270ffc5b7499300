/- The translations are so. -/
import Derived.Test.YtingdebioipemaaDoorTabB
import Derived.Test.YtingdebioipemaaDoorProg
namespace Go.Proofs.YtingdebioipemaaDoor
open Go Go.Am
set_option maxRecDepth 100000
def d_proofmarklaw05_ClauseModels : Nat → List Nat := fun i => [[], [], [23, 24, 25, 26, 27, 28, 29, 30, 31, 32, 33, 34, 35, 36, 37, 38, 39], [], [41], [], [43, 44, 45, 42, 46, 47], [], [49, 50, 48, 51, 52], [], [], [], [53, 54, 55], [], [57, 58, 59, 60, 61, 62, 63, 64, 65], [3, 0, 3, 3, 0, 3, 1, 3, 0, 3], [66, 67, 68, 69, 70, 71, 72, 73, 74], [3, 0, 3, 3, 0, 3, 1, 3, 0, 3], [76, 77, 78, 79, 75, 80, 81], [], [], [], [82, 83, 84, 85], [], [87, 88], [], [89, 90, 91], [], [], [], [92, 93, 94], [], [96, 97], [], [98, 99, 100, 101, 102, 103, 104, 105], [], [106, 107, 108], [], [109, 110, 111, 112, 113, 114, 115, 116, 117, 118, 119, 120, 121, 122, 123, 124, 125, 126, 127, 128, 129, 130, 131, 132, 133], [], [], [], [135, 136, 137, 138, 139, 140, 141, 142, 143, 144, 145, 146, 147, 148, 149, 150], [], [], [], [152], []].getD i []
theorem e_proofmarklaw05_ClauseModels : compF Tryd.prog (fun _ => false) d_proofmarklaw05_ClauseModels 5 = some proofmarklaw05_ClauseModels := by kernel_rfl
theorem b_proofmarklaw05_ClauseModels : bodied Tryd.prog 5 = true := by kernel_rfl
def d_proofmarklaw05_few : Nat → List Nat := fun i => [[], [], [6, 7, 8, 9], [], [], [], [], [], [11, 12, 13, 14], [], [16, 17], [], [18, 19, 20, 21, 22, 23], [], [], [], [], []].getD i []
theorem e_proofmarklaw05_few : compF Tryd.prog (fun _ => false) d_proofmarklaw05_few 6 = some proofmarklaw05_few := by kernel_rfl
theorem b_proofmarklaw05_few : bodied Tryd.prog 6 = true := by kernel_rfl
def d_proofmarklaw05_works : Nat → List Nat := fun i => [[], [], [12, 13, 11, 14, 15], [], [17, 18, 16, 19, 20, 3], [], [22, 23, 24, 25, 26, 27, 21, 28, 29], [], [31, 32, 33, 30, 34, 35], [], [37, 38, 39, 40, 36, 41, 42], [], [43, 44, 45, 46, 47, 48, 49, 50, 51, 52, 53, 54, 55, 56, 57, 58, 59, 60, 61, 62, 63, 64, 65, 66, 67, 68, 69, 70, 71, 72, 73, 74, 75, 76, 77], []].getD i []
theorem e_proofmarklaw05_works : compF Tryd.prog (fun _ => false) d_proofmarklaw05_works 7 = some proofmarklaw05_works := by kernel_rfl
theorem b_proofmarklaw05_works : bodied Tryd.prog 7 = true := by kernel_rfl
def d_clause_Units : Nat → List Nat := fun i => [[], [], [10, 11], [], [], [], [13], [], [], [], [], [], [14, 15, 16], [], [18, 19], [], [20], [], [], [], [25, 26], [], [27, 28], [], [30, 31, 32, 33], [], [35, 36, 37], [], [], [], [39, 40, 41], [], [42, 43, 44, 45], [0, 0, 3, 0, 2], [46, 47, 48, 49, 50, 51], [], [52], [], [53, 54], [], [55], []].getD i []
theorem e_clause_Units : compF Tryd.prog (fun _ => false) d_clause_Units 8 = some clause_Units := by kernel_rfl
theorem b_clause_Units : bodied Tryd.prog 8 = true := by kernel_rfl
def d_clause_Right : Nat → List Nat := fun i => [[], [], [7, 8, 9, 10, 11, 12, 13, 14, 15, 16, 17, 18, 19], [], [], [], [21], [], [], [], [26, 27], [], [], [], [], [], [32, 33], [], [34, 35, 36, 37, 38, 39, 40, 41, 42, 43, 44, 45, 46, 47], [], [], [], [49], [], [50], [], [], []].getD i []
theorem e_clause_Right : compF Tryd.prog (fun _ => false) d_clause_Right 9 = some clause_Right := by kernel_rfl
theorem b_clause_Right : bodied Tryd.prog 9 = true := by kernel_rfl
def d_clause_Holds : Nat → List Nat := fun i => [[], [], [5, 6, 7, 8, 9, 10, 11, 12, 13], [], [], [], [15, 16, 17, 18], []].getD i []
theorem e_clause_Holds : compF Tryd.prog (fun _ => false) d_clause_Holds 10 = some clause_Holds := by kernel_rfl
theorem b_clause_Holds : bodied Tryd.prog 10 = true := by kernel_rfl
def d_proofmarkkit_SameInts : Nat → List Nat := fun i => [[], [], [6, 7, 8, 9], [], [], [], [], [], [11, 12, 13], [], [15, 16], [], [17, 18, 19, 20, 21, 22, 23, 24], [3, 3, 3, 0, 3, 3, 3, 0, 3], [], [], [], []].getD i []
theorem e_proofmarkkit_SameInts : compF Tryd.prog (fun _ => false) d_proofmarkkit_SameInts 11 = some proofmarkkit_SameInts := by kernel_rfl
theorem b_proofmarkkit_SameInts : bodied Tryd.prog 11 = true := by kernel_rfl
def d_clause_Assign : Nat → List Nat := fun i => [[], [], [12, 13, 14, 15, 16, 17, 18, 19, 20, 21, 22], [], [24], [], [25], [], [], [], [], [], [30, 31], [], [32, 33], [], [34], [], [35, 36], [], [38], [], [39, 40, 41], [], [42], [], [], [], [47, 48], [], [49, 50, 51], [], [53, 54, 55, 56, 57, 58, 59, 60, 61], [3, 1, 3, 1, 3, 2, 1, 2, 3, 2], [62], [], [63], []].getD i []
theorem e_clause_Assign : compF Tryd.prog (fun d => List.contains [58] d) d_clause_Assign 13 = some clause_Assign := by kernel_rfl
theorem b_clause_Assign : bodied Tryd.prog 13 = true := by kernel_rfl
def d_proofmarkkit_Pick : Nat → List Nat := fun i => [[], [], [5], [], [], [], [7, 8, 9, 10, 11, 12, 13], []].getD i []
theorem e_proofmarkkit_Pick : compF Tryd.prog (fun _ => false) d_proofmarkkit_Pick 17 = some proofmarkkit_Pick := by kernel_rfl
theorem b_proofmarkkit_Pick : bodied Tryd.prog 17 = true := by kernel_rfl
def d_clause_Resolve : Nat → List Nat := fun i => [[], [], [8, 9, 10, 11, 12, 13, 14, 15, 16, 17, 18, 19, 20, 21, 22, 23, 24, 25, 26, 27, 28, 29, 30, 31, 32], [], [], [], [34, 35, 36, 37, 38, 39, 40, 41, 42], []].getD i []
theorem e_clause_Resolve : compF Tryd.prog (fun _ => false) d_clause_Resolve 18 = some clause_Resolve := by kernel_rfl
theorem b_clause_Resolve : bodied Tryd.prog 18 = true := by kernel_rfl
def d_proofmarklaw05_each : Nat → List Nat := fun i => [[], [], [], [], [6, 7, 8], [], [10, 11], [], [12, 13, 14, 15, 16, 17, 18], [], [], [], [], []].getD i []
theorem e_proofmarklaw05_each : compF Tryd.prog (fun _ => false) d_proofmarklaw05_each 19 = some proofmarklaw05_each := by kernel_rfl
theorem b_proofmarklaw05_each : bodied Tryd.prog 19 = true := by kernel_rfl
def d_proofmarkref05_Clause : Nat → List Nat := fun i => [[], [], [], [], [6, 7, 8], [], [10, 11], [], [12, 13, 14, 15, 16, 17, 18, 19, 20, 21, 22, 23, 24, 25, 26, 27, 28, 29, 30, 31, 32, 33, 34, 35, 36, 37, 38, 39, 40, 41, 42, 43, 44], [], [], [], [], []].getD i []
theorem e_proofmarkref05_Clause : compF Tryd.prog (fun _ => false) d_proofmarkref05_Clause 20 = some proofmarkref05_Clause := by kernel_rfl
theorem b_proofmarkref05_Clause : bodied Tryd.prog 20 = true := by kernel_rfl
def d_clause_Clean : Nat → List Nat := fun i => [[], [], [7, 8], [], [9, 10], [], [11, 12], [], [], [], [], [], [17, 18, 19], [], [20, 21, 22, 23, 24, 25, 26, 27, 28, 29, 30, 31, 32, 33, 34, 35, 36, 37, 38, 39, 40, 41, 42, 43, 44], [], [], [], [46], [], [47], []].getD i []
theorem e_clause_Clean : compF Tryd.prog (fun _ => false) d_clause_Clean 21 = some clause_Clean := by kernel_rfl
theorem b_clause_Clean : bodied Tryd.prog 21 = true := by kernel_rfl
def d_clause_Put : Nat → List Nat := fun i => [[], [], [9, 10], [], [], [], [], [], [12, 13, 14, 15, 16, 17, 18, 19, 20, 21, 22, 23], [3, 0, 1, 3, 3, 3, 0, 3, 2, 3, 3, 2], [24], [], [], [], [29, 30], [], [31, 32, 33], [], [], [], [38, 39], [], [40, 41, 42], [], [43], [], [45], [], [46], [], [47], [], [48], [], [49], []].getD i []
theorem e_clause_Put : compF Tryd.prog (fun _ => false) d_clause_Put 22 = some clause_Put := by kernel_rfl
theorem b_clause_Put : bodied Tryd.prog 22 = true := by kernel_rfl
def d_clause_some_int : Nat → List Nat := fun i => [[], [], [5, 6, 7], []].getD i []
theorem e_clause_some_int : compF Tryd.prog (fun _ => false) d_clause_some_int 23 = some clause_some_int := by kernel_rfl
theorem b_clause_some_int : bodied Tryd.prog 23 = true := by kernel_rfl
def d_clause_Units_S1 : Nat → List Nat := fun i => [[], [], [4, 5, 6, 7], []].getD i []
theorem e_clause_Units_S1 : compF Tryd.prog (fun _ => false) d_clause_Units_S1 24 = some clause_Units_S1 := by kernel_rfl
theorem b_clause_Units_S1 : bodied Tryd.prog 24 = true := by kernel_rfl
def d_slices_DeleteFunc_int_int : Nat → List Nat := fun i => [[], [], [8, 9, 10], [], [11], [], [13], [], [14, 15], [], [16, 17, 18], [], [20, 21], [], [22, 23, 24, 25], [], [26, 27, 28], [], [30, 31, 32, 33], [], [34, 35], [], [36, 37, 38], [], [39, 40, 41], []].getD i []
theorem e_slices_DeleteFunc_int_int : compF Tryd.prog (fun _ => false) d_slices_DeleteFunc_int_int 25 = some slices_DeleteFunc_int_int := by kernel_rfl
theorem b_slices_DeleteFunc_int_int : bodied Tryd.prog 25 = true := by kernel_rfl
def d_slices_Clone_int_int : Nat → List Nat := fun i => [[], [], [3], [], [], [], [5, 6, 7], []].getD i []
theorem e_slices_Clone_int_int : compF Tryd.prog (fun _ => false) d_slices_Clone_int_int 26 = some slices_Clone_int_int := by kernel_rfl
theorem b_slices_Clone_int_int : bodied Tryd.prog 26 = true := by kernel_rfl
def d_clause_Units_S2 : Nat → List Nat := fun i => [[], [], [4, 5, 6, 7, 8], []].getD i []
theorem e_clause_Units_S2 : compF Tryd.prog (fun _ => false) d_clause_Units_S2 27 = some clause_Units_S2 := by kernel_rfl
theorem b_clause_Units_S2 : bodied Tryd.prog 27 = true := by kernel_rfl
def d_clause_all_int : Nat → List Nat := fun i => [[], [], [5, 6, 7, 8], []].getD i []
theorem e_clause_all_int : compF Tryd.prog (fun _ => false) d_clause_all_int 28 = some clause_all_int := by kernel_rfl
theorem b_clause_all_int : bodied Tryd.prog 28 = true := by kernel_rfl
def d_clause_Units_S3 : Nat → List Nat := fun i => [[], [], [4, 5, 6, 7, 8], []].getD i []
theorem e_clause_Units_S3 : compF Tryd.prog (fun _ => false) d_clause_Units_S3 29 = some clause_Units_S3 := by kernel_rfl
theorem b_clause_Units_S3 : bodied Tryd.prog 29 = true := by kernel_rfl
def d_slices_SortFunc_int_int : Nat → List Nat := fun i => [[5, 6], [], [7, 8, 9, 10, 11, 12, 13], []].getD i []
theorem e_slices_SortFunc_int_int : compF Tryd.prog (fun _ => false) d_slices_SortFunc_int_int 30 = some slices_SortFunc_int_int := by kernel_rfl
theorem b_slices_SortFunc_int_int : bodied Tryd.prog 30 = true := by kernel_rfl
def d_clause_abs : Nat → List Nat := fun i => [[], [], [3, 4, 5, 6], []].getD i []
theorem e_clause_abs : compF Tryd.prog (fun _ => false) d_clause_abs 33 = some clause_abs := by kernel_rfl
theorem b_clause_abs : bodied Tryd.prog 33 = true := by kernel_rfl
def d_clause_all_int_34 : Nat → List Nat := fun i => [[], [], [5, 6, 7, 8], []].getD i []
theorem e_clause_all_int_34 : compF Tryd.prog (fun _ => false) d_clause_all_int_34 34 = some clause_all_int_34 := by kernel_rfl
theorem b_clause_all_int_34 : bodied Tryd.prog 34 = true := by kernel_rfl
def d_clause_Holds_S1 : Nat → List Nat := fun i => [[], [], [4, 5, 6], []].getD i []
theorem e_clause_Holds_S1 : compF Tryd.prog (fun _ => false) d_clause_Holds_S1 35 = some clause_Holds_S1 := by kernel_rfl
theorem b_clause_Holds_S1 : bodied Tryd.prog 35 = true := by kernel_rfl
def d_clause_Holds_S1_S1 : Nat → List Nat := fun i => [[], [], [4, 5, 6, 7, 8, 9, 10, 11, 12], [0, 3, 1, 3, 3, 0, 3, 3, 3, 3]].getD i []
theorem e_clause_Holds_S1_S1 : compF Tryd.prog (fun _ => false) d_clause_Holds_S1_S1 36 = some clause_Holds_S1_S1 := by kernel_rfl
theorem b_clause_Holds_S1_S1 : bodied Tryd.prog 36 = true := by kernel_rfl
def d_clause_Assign_S1 : Nat → List Nat := fun i => [[], [], [4, 5, 6, 7, 8], []].getD i []
theorem e_clause_Assign_S1 : compF Tryd.prog (fun _ => false) d_clause_Assign_S1 37 = some clause_Assign_S1 := by kernel_rfl
theorem b_clause_Assign_S1 : bodied Tryd.prog 37 = true := by kernel_rfl
def d_clause_Assign_S2 : Nat → List Nat := fun i => [[], [], [4, 5, 6, 7], []].getD i []
theorem e_clause_Assign_S2 : compF Tryd.prog (fun _ => false) d_clause_Assign_S2 38 = some clause_Assign_S2 := by kernel_rfl
theorem b_clause_Assign_S2 : bodied Tryd.prog 38 = true := by kernel_rfl
def d_clause_Assign_S3 : Nat → List Nat := fun i => [[], [], [4, 5, 6, 7, 8], []].getD i []
theorem e_clause_Assign_S3 : compF Tryd.prog (fun _ => false) d_clause_Assign_S3 39 = some clause_Assign_S3 := by kernel_rfl
theorem b_clause_Assign_S3 : bodied Tryd.prog 39 = true := by kernel_rfl
def d_slices_Contains_int_int : Nat → List Nat := fun i => [[], [], [5, 6, 7, 8], []].getD i []
theorem e_slices_Contains_int_int : compF Tryd.prog (fun _ => false) d_slices_Contains_int_int 44 = some slices_Contains_int_int := by kernel_rfl
theorem b_slices_Contains_int_int : bodied Tryd.prog 44 = true := by kernel_rfl
def d_slices_Concat_int_int : Nat → List Nat := fun i => [[], [], [], [], [], [], [], [], [13, 14], [], [15, 16, 17, 18], [], [19], [], [21], [], [22], [], [23, 24], [], [], [], [], [], [29, 30], [], [31, 32, 33], [], [34], [], [35], []].getD i []
theorem e_slices_Concat_int_int : compF Tryd.prog (fun _ => false) d_slices_Concat_int_int 45 = some slices_Concat_int_int := by kernel_rfl
theorem b_slices_Concat_int_int : bodied Tryd.prog 45 = true := by kernel_rfl
def d_clause_Resolve_S1 : Nat → List Nat := fun i => [[], [], [4, 5, 6, 7, 8, 9, 10, 11, 12], []].getD i []
theorem e_clause_Resolve_S1 : compF Tryd.prog (fun _ => false) d_clause_Resolve_S1 46 = some clause_Resolve_S1 := by kernel_rfl
theorem b_clause_Resolve_S1 : bodied Tryd.prog 46 = true := by kernel_rfl
def d_slices_Compact_int_int : Nat → List Nat := fun i => [[], [], [6, 7], [], [9], [], [], [], [10, 11, 12], [], [14, 15], [], [16, 17, 18, 19, 20, 21, 22, 23, 24], [3, 3, 3, 0, 3, 3, 3, 3, 0, 3], [26, 27, 28], [], [], [], [29, 30, 31], [], [33, 34], [], [35, 36, 37, 38, 39, 40, 41, 42, 43], [3, 3, 3, 0, 3, 3, 3, 3, 0, 3], [45, 46, 47, 48, 49, 50, 51], [], [52, 53], [], [54, 55, 56], [], [57, 58, 59], [], [60], []].getD i []
theorem e_slices_Compact_int_int : compF Tryd.prog (fun _ => false) d_slices_Compact_int_int 49 = some slices_Compact_int_int := by kernel_rfl
theorem b_slices_Compact_int_int : bodied Tryd.prog 49 = true := by kernel_rfl
def d_slices_ContainsFunc_int_int : Nat → List Nat := fun i => [[], [], [5, 6, 7, 8], []].getD i []
theorem e_slices_ContainsFunc_int_int : compF Tryd.prog (fun _ => false) d_slices_ContainsFunc_int_int 54 = some slices_ContainsFunc_int_int := by kernel_rfl
theorem b_slices_ContainsFunc_int_int : bodied Tryd.prog 54 = true := by kernel_rfl
def d_slices_IndexFunc_int_int : Nat → List Nat := fun i => [[], [], [6], [], [], [], [10], [], [11, 12, 13, 14, 15], [], [17], [], [18], [], [], []].getD i []
theorem e_slices_IndexFunc_int_int : compF Tryd.prog (fun _ => false) d_slices_IndexFunc_int_int 55 = some slices_IndexFunc_int_int := by kernel_rfl
theorem b_slices_IndexFunc_int_int : bodied Tryd.prog 55 = true := by kernel_rfl
def d_clause_all_int__S1 : Nat → List Nat := fun i => [[], [], [4, 5, 6, 7], []].getD i []
theorem e_clause_all_int__S1 : compF Tryd.prog (fun _ => false) d_clause_all_int__S1 56 = some clause_all_int__S1 := by kernel_rfl
theorem b_clause_all_int__S1 : bodied Tryd.prog 56 = true := by kernel_rfl
def d_slices_ContainsFunc_int_int_60 : Nat → List Nat := fun i => [[], [], [5, 6, 7, 8], []].getD i []
theorem e_slices_ContainsFunc_int_int_60 : compF Tryd.prog (fun _ => false) d_slices_ContainsFunc_int_int_60 60 = some slices_ContainsFunc_int_int_60 := by kernel_rfl
theorem b_slices_ContainsFunc_int_int_60 : bodied Tryd.prog 60 = true := by kernel_rfl
def d_clause_all_int__S1_61 : Nat → List Nat := fun i => [[], [], [4, 5, 6, 7], []].getD i []
theorem e_clause_all_int__S1_61 : compF Tryd.prog (fun _ => false) d_clause_all_int__S1_61 61 = some clause_all_int__S1_61 := by kernel_rfl
theorem b_clause_all_int__S1_61 : bodied Tryd.prog 61 = true := by kernel_rfl
def d_slices_Index_int_int : Nat → List Nat := fun i => [[], [], [6], [], [], [], [10], [], [11, 12, 13, 14, 15], [], [17], [], [18], [], [], []].getD i []
theorem e_slices_Index_int_int : compF Tryd.prog (fun _ => false) d_slices_Index_int_int 62 = some slices_Index_int_int := by kernel_rfl
theorem b_slices_Index_int_int : bodied Tryd.prog 62 = true := by kernel_rfl
def d_slices_Grow_int_int : Nat → List Nat := fun i => [[], [], [5], [], [7], [], [8, 9, 10, 11, 12, 13, 14], [], [15], [], [17, 18, 19, 20, 21, 22, 23, 24, 25], [], [26], []].getD i []
theorem e_slices_Grow_int_int : compF Tryd.prog (fun _ => false) d_slices_Grow_int_int 63 = some slices_Grow_int_int := by kernel_rfl
theorem b_slices_Grow_int_int : bodied Tryd.prog 63 = true := by kernel_rfl
def d_slices_IndexFunc_int_int_77 : Nat → List Nat := fun i => [[], [], [6], [], [], [], [10], [], [11, 12, 13, 14, 15], [], [17], [], [18], [], [], []].getD i []
theorem e_slices_IndexFunc_int_int_77 : compF Tryd.prog (fun _ => false) d_slices_IndexFunc_int_int_77 77 = some slices_IndexFunc_int_int_77 := by kernel_rfl
theorem b_slices_IndexFunc_int_int_77 : bodied Tryd.prog 77 = true := by kernel_rfl
theorem tab_ok : TabOk Tryd.prog tab := fun f A h => by
  unfold tab at h
  split at h
  · cases h; exact ⟨b_proofmarklaw05_ClauseModels, _, _, e_proofmarklaw05_ClauseModels⟩
  · cases h; exact ⟨b_proofmarklaw05_few, _, _, e_proofmarklaw05_few⟩
  · cases h; exact ⟨b_proofmarklaw05_works, _, _, e_proofmarklaw05_works⟩
  · cases h; exact ⟨b_clause_Units, _, _, e_clause_Units⟩
  · cases h; exact ⟨b_clause_Right, _, _, e_clause_Right⟩
  · cases h; exact ⟨b_clause_Holds, _, _, e_clause_Holds⟩
  · cases h; exact ⟨b_proofmarkkit_SameInts, _, _, e_proofmarkkit_SameInts⟩
  · cases h; exact ⟨b_clause_Assign, _, _, e_clause_Assign⟩
  · cases h; exact ⟨b_proofmarkkit_Pick, _, _, e_proofmarkkit_Pick⟩
  · cases h; exact ⟨b_clause_Resolve, _, _, e_clause_Resolve⟩
  · cases h; exact ⟨b_proofmarklaw05_each, _, _, e_proofmarklaw05_each⟩
  · cases h; exact ⟨b_proofmarkref05_Clause, _, _, e_proofmarkref05_Clause⟩
  · cases h; exact ⟨b_clause_Clean, _, _, e_clause_Clean⟩
  · cases h; exact ⟨b_clause_Put, _, _, e_clause_Put⟩
  · cases h; exact ⟨b_clause_some_int, _, _, e_clause_some_int⟩
  · cases h; exact ⟨b_clause_Units_S1, _, _, e_clause_Units_S1⟩
  · cases h; exact ⟨b_slices_DeleteFunc_int_int, _, _, e_slices_DeleteFunc_int_int⟩
  · cases h; exact ⟨b_slices_Clone_int_int, _, _, e_slices_Clone_int_int⟩
  · cases h; exact ⟨b_clause_Units_S2, _, _, e_clause_Units_S2⟩
  · cases h; exact ⟨b_clause_all_int, _, _, e_clause_all_int⟩
  · cases h; exact ⟨b_clause_Units_S3, _, _, e_clause_Units_S3⟩
  · cases h; exact ⟨b_slices_SortFunc_int_int, _, _, e_slices_SortFunc_int_int⟩
  · cases h; exact ⟨b_clause_abs, _, _, e_clause_abs⟩
  · cases h; exact ⟨b_clause_all_int_34, _, _, e_clause_all_int_34⟩
  · cases h; exact ⟨b_clause_Holds_S1, _, _, e_clause_Holds_S1⟩
  · cases h; exact ⟨b_clause_Holds_S1_S1, _, _, e_clause_Holds_S1_S1⟩
  · cases h; exact ⟨b_clause_Assign_S1, _, _, e_clause_Assign_S1⟩
  · cases h; exact ⟨b_clause_Assign_S2, _, _, e_clause_Assign_S2⟩
  · cases h; exact ⟨b_clause_Assign_S3, _, _, e_clause_Assign_S3⟩
  · cases h; exact ⟨b_slices_Contains_int_int, _, _, e_slices_Contains_int_int⟩
  · cases h; exact ⟨b_slices_Concat_int_int, _, _, e_slices_Concat_int_int⟩
  · cases h; exact ⟨b_clause_Resolve_S1, _, _, e_clause_Resolve_S1⟩
  · cases h; exact ⟨b_slices_Compact_int_int, _, _, e_slices_Compact_int_int⟩
  · cases h; exact ⟨b_slices_ContainsFunc_int_int, _, _, e_slices_ContainsFunc_int_int⟩
  · cases h; exact ⟨b_slices_IndexFunc_int_int, _, _, e_slices_IndexFunc_int_int⟩
  · cases h; exact ⟨b_clause_all_int__S1, _, _, e_clause_all_int__S1⟩
  · cases h; exact ⟨b_slices_ContainsFunc_int_int_60, _, _, e_slices_ContainsFunc_int_int_60⟩
  · cases h; exact ⟨b_clause_all_int__S1_61, _, _, e_clause_all_int__S1_61⟩
  · cases h; exact ⟨b_slices_Index_int_int, _, _, e_slices_Index_int_int⟩
  · cases h; exact ⟨b_slices_Grow_int_int, _, _, e_slices_Grow_int_int⟩
  · cases h; exact ⟨b_slices_IndexFunc_int_int_77, _, _, e_slices_IndexFunc_int_int_77⟩
  · cases h
end Go.Proofs.YtingdebioipemaaDoor
