/- The translations are so. -/
import Derived.Test.YtingdebioipemaaTabB
import Derived.Test.YtingdebioipemaaProg
namespace Go.Proofs.Ytingdebioipemaa
open Go Go.Am
set_option maxRecDepth 100000
def d_proofmarklaw08_RupMore : Nat → List Nat := fun i => [[], [], [11, 12, 13, 14, 15, 16, 17, 18, 19, 20, 21, 22, 23, 24, 25, 26, 27, 28], [], [30], [], [31, 32, 33], [], [34, 35, 36, 37, 38, 39], [], [40, 41, 42, 43, 44], [], [45, 46, 47, 48, 49, 50, 51, 52, 53, 54, 55, 56], [], [], [], [58, 59, 60, 61, 62], [], [], [], [63, 64, 65, 66], [], [68, 69], [], [], [], [70, 71, 72, 73, 74, 75, 76], [], [77, 78, 79, 80, 81, 82, 83, 84, 85, 86, 87, 88, 89, 90, 91, 92, 93, 94, 95], [0, 3, 0, 3, 3, 0, 2, 3, 3, 0, 2, 3, 0, 3, 3, 1, 2, 3, 3, 3], [], [], [97], []].getD i []
theorem e_proofmarklaw08_RupMore : compF Try.prog (fun _ => false) d_proofmarklaw08_RupMore 5 = some proofmarklaw08_RupMore := by kernel_rfl
theorem b_proofmarklaw08_RupMore : bodied Try.prog 5 = true := by kernel_rfl
def d_proofmarklaw08_RupUnits : Nat → List Nat := fun i => [[], [], [11, 12, 13, 14, 15, 16, 17, 18, 19, 20, 21, 22, 23, 24, 25, 26, 27, 28], [], [30], [], [32, 33, 31, 34, 35], [], [], [], [36, 37, 38], [], [40, 41], [], [42, 43, 44, 45, 46, 47, 48], [0, 3, 3, 3, 3, 3, 2, 3], [], [], [50, 51, 52, 53, 54, 55, 56, 57, 58, 59, 60, 61, 62], [], [], [], [64, 65, 66, 67, 68, 69, 70], [], [], [], [72, 73, 74, 75], [], [76, 77, 78, 79, 80], [0, 3, 3, 1, 2, 3], [], [], [82, 83, 84, 85, 86, 87], []].getD i []
theorem e_proofmarklaw08_RupUnits : compF Try.prog (fun _ => false) d_proofmarklaw08_RupUnits 6 = some proofmarklaw08_RupUnits := by kernel_rfl
theorem b_proofmarklaw08_RupUnits : bodied Try.prog 6 = true := by kernel_rfl
def d_proofmarklaw08_few : Nat → List Nat := fun i => [[], [], [6, 7, 8], [], [], [], [], [], [10, 11, 12], [], [14, 15], [], [16, 17, 18, 19, 20], [], [], [], [], []].getD i []
theorem e_proofmarklaw08_few : compF Try.prog (fun _ => false) d_proofmarklaw08_few 8 = some proofmarklaw08_few := by kernel_rfl
theorem b_proofmarklaw08_few : bodied Try.prog 8 = true := by kernel_rfl
def d_proofmarklaw08_works : Nat → List Nat := fun i => [[], [], [4, 5, 6, 7, 8, 9], [], [11, 12, 13, 14, 15, 16, 17, 10, 18, 19], [], [20, 21, 22, 23, 24, 25, 26, 27, 28, 29, 30, 31, 32, 33, 34, 35, 36, 37, 38, 39, 40, 41, 42, 43, 44, 45, 46, 47, 48, 49, 50, 51], []].getD i []
theorem e_proofmarklaw08_works : compF Try.prog (fun _ => false) d_proofmarklaw08_works 9 = some proofmarklaw08_works := by kernel_rfl
theorem b_proofmarklaw08_works : bodied Try.prog 9 = true := by kernel_rfl
def d_rup_Short : Nat → List Nat := fun i => [[], [], [11, 12, 13], [], [], [], [15, 16, 17], [], [], [], [], [], [22, 23, 24], [], [25, 26, 27, 28, 29], [0, 3, 3, 1, 3, 2], [30], [], [31], [], [32, 33], [], [], [], [36, 37, 38], [], [40, 41, 42, 43, 44], [], [45], []].getD i []
theorem e_rup_Short : compF Try.prog (fun _ => false) d_rup_Short 11 = some rup_Short := by kernel_rfl
theorem b_rup_Short : bodied Try.prog 11 = true := by kernel_rfl
theorem g_rup_Short_0a : (rngOf Try.prog 11 0).map (fun r => (compC Try.prog 46 (fun _ => false) d_rup_Short (rngA r), calm (rngA r))) = some (some rup_Short_g0a, true) := by kernel_rfl
theorem g_rup_Short_0b : (rngOf Try.prog 11 0).map (fun r => (compC Try.prog 46 (fun _ => false) d_rup_Short (rngB r), calm (rngB r))) = some (some rup_Short_g0b, true) := by kernel_rfl
def d_rup_Follows : Nat → List Nat := fun i => [[], [], [14, 15, 16, 17, 18, 19, 20, 21, 22, 23, 24], [], [], [], [27, 28, 26, 29, 30], [], [31], [], [], [], [33, 34, 35], [], [], [], [], [], [40, 41, 42], [], [43, 44, 45, 46, 47], [], [48], [], [50, 51, 52, 49, 53, 54, 11], [], [56, 57, 55, 58, 59, 12], [], [60, 61], []].getD i []
theorem e_rup_Follows : compF Try.prog (fun _ => false) d_rup_Follows 13 = some rup_Follows := by kernel_rfl
theorem b_rup_Follows : bodied Try.prog 13 = true := by kernel_rfl
def d_rup_First : Nat → List Nat := fun i => [[], [], [8, 9, 10, 11, 12, 13], [3, 0, 3, 0, 1, 3, 1, 2], [], [], [], [], [18, 19, 20], [], [21, 22, 23], [], [25], [], [26, 27, 28, 29, 30, 31], [], [32], [], [33, 34], []].getD i []
theorem e_rup_First : compF Try.prog (fun _ => false) d_rup_First 15 = some rup_First := by kernel_rfl
theorem b_rup_First : bodied Try.prog 15 = true := by kernel_rfl
def d_rup_Check : Nat → List Nat := fun i => [[], [], [6, 7], [], [8, 9, 10, 11, 12, 13, 14, 15, 16, 17, 18, 19, 20, 21, 22, 23, 24, 25], []].getD i []
theorem e_rup_Check : compF Try.prog (fun _ => false) d_rup_Check 17 = some rup_Check := by kernel_rfl
theorem b_rup_Check : bodied Try.prog 17 = true := by kernel_rfl
def d_proofmarklaw08_sameRows : Nat → List Nat := fun i => [[], [], [6, 7, 8, 9], [], [], [], [], [], [11, 12, 13], [], [15, 16], [], [17, 18, 19, 20, 21, 22, 23, 24, 25], [3, 3, 3, 0, 3, 3, 3, 0, 2, 3], [], [], [], []].getD i []
theorem e_proofmarklaw08_sameRows : compF Try.prog (fun _ => false) d_proofmarklaw08_sameRows 19 = some proofmarklaw08_sameRows := by kernel_rfl
theorem b_proofmarklaw08_sameRows : bodied Try.prog 19 = true := by kernel_rfl
def d_clause_Right : Nat → List Nat := fun i => [[], [], [7, 8, 9, 10, 11, 12, 13, 14, 15, 16, 17, 18, 19], [], [], [], [21], [], [], [], [26, 27], [], [], [], [], [], [32, 33], [], [34, 35, 36, 37, 38, 39, 40, 41, 42, 43, 44, 45, 46, 47], [], [], [], [49], [], [50], [], [], []].getD i []
theorem e_clause_Right : compF Try.prog (fun _ => false) d_clause_Right 20 = some clause_Right := by kernel_rfl
theorem b_clause_Right : bodied Try.prog 20 = true := by kernel_rfl
def d_clause_Units : Nat → List Nat := fun i => [[], [], [10, 11], [], [], [], [13], [], [], [], [], [], [14, 15, 16], [], [18, 19], [], [20], [], [], [], [25, 26], [], [27, 28], [], [30, 31, 32, 33], [], [35, 36, 37], [], [], [], [39, 40, 41], [], [42, 43, 44, 45], [0, 0, 3, 0, 2], [46, 47, 48, 49, 50, 51], [], [52], [], [53, 54], [], [55], []].getD i []
theorem e_clause_Units : compF Try.prog (fun _ => false) d_clause_Units 24 = some clause_Units := by kernel_rfl
theorem b_clause_Units : bodied Try.prog 24 = true := by kernel_rfl
def d_slices_Clone_int_int : Nat → List Nat := fun i => [[], [], [3], [], [], [], [5, 6, 7], []].getD i []
theorem e_slices_Clone_int_int : compF Try.prog (fun _ => false) d_slices_Clone_int_int 26 = some slices_Clone_int_int := by kernel_rfl
theorem b_slices_Clone_int_int : bodied Try.prog 26 = true := by kernel_rfl
def d_rup_Short_S1 : Nat → List Nat := fun i => [[], [], [5, 6, 7, 8, 9, 10, 11, 12, 13], [1, 0, 1, 3, 3, 3, 2, 2, 3, 3]].getD i []
theorem e_rup_Short_S1 : compF Try.prog (fun d => List.contains [11] d) d_rup_Short_S1 27 = some rup_Short_S1 := by kernel_rfl
theorem b_rup_Short_S1 : bodied Try.prog 27 = true := by kernel_rfl
def d_slices_Delete_int_int : Nat → List Nat := fun i => [[], [], [8, 9, 10, 11, 12, 13], [], [14, 15], [], [17], [], [18, 19], [], [20, 21, 22, 23, 24, 25, 26], [3, 3, 3, 3, 3, 3, 2, 3], [27, 28, 29, 30, 31], [], [32], []].getD i []
theorem e_slices_Delete_int_int : compF Try.prog (fun _ => false) d_slices_Delete_int_int 28 = some slices_Delete_int_int := by kernel_rfl
theorem b_slices_Delete_int_int : bodied Try.prog 28 = true := by kernel_rfl
def d_slices_Clone_int_int_29 : Nat → List Nat := fun i => [[], [], [3], [], [], [], [5, 6, 7], []].getD i []
theorem e_slices_Clone_int_int_29 : compF Try.prog (fun _ => false) d_slices_Clone_int_int_29 29 = some slices_Clone_int_int_29 := by kernel_rfl
theorem b_slices_Clone_int_int_29 : bodied Try.prog 29 = true := by kernel_rfl
def d_rup_back : Nat → List Nat := fun i => [[], [], [3], []].getD i []
theorem e_rup_back : compF Try.prog (fun _ => false) d_rup_back 30 = some rup_back := by kernel_rfl
theorem b_rup_back : bodied Try.prog 30 = true := by kernel_rfl
def d_clause_Clean : Nat → List Nat := fun i => [[], [], [7, 8], [], [9, 10], [], [11, 12], [], [], [], [], [], [17, 18, 19], [], [20, 21, 22, 23, 24, 25, 26, 27, 28, 29, 30, 31, 32, 33, 34, 35, 36, 37, 38, 39, 40, 41, 42, 43, 44], [], [], [], [46], [], [47], []].getD i []
theorem e_clause_Clean : compF Try.prog (fun _ => false) d_clause_Clean 32 = some clause_Clean := by kernel_rfl
theorem b_clause_Clean : bodied Try.prog 32 = true := by kernel_rfl
def d_clause_Assign : Nat → List Nat := fun i => [[], [], [12, 13, 14, 15, 16, 17, 18, 19, 20, 21, 22], [], [24], [], [25], [], [], [], [], [], [30, 31], [], [32, 33], [], [34], [], [35, 36], [], [38], [], [39, 40, 41], [], [42], [], [], [], [47, 48], [], [49, 50, 51], [], [53, 54, 55, 56, 57, 58, 59, 60, 61], [3, 1, 3, 1, 3, 2, 1, 2, 3, 2], [62], [], [63], []].getD i []
theorem e_clause_Assign : compF Try.prog (fun d => List.contains [58] d) d_clause_Assign 33 = some clause_Assign := by kernel_rfl
theorem b_clause_Assign : bodied Try.prog 33 = true := by kernel_rfl
def d_proofmarkkit_SameInts : Nat → List Nat := fun i => [[], [], [6, 7, 8, 9], [], [], [], [], [], [11, 12, 13], [], [15, 16], [], [17, 18, 19, 20, 21, 22, 23, 24], [3, 3, 3, 0, 3, 3, 3, 0, 3], [], [], [], []].getD i []
theorem e_proofmarkkit_SameInts : compF Try.prog (fun _ => false) d_proofmarkkit_SameInts 36 = some proofmarkkit_SameInts := by kernel_rfl
theorem b_proofmarkkit_SameInts : bodied Try.prog 36 = true := by kernel_rfl
def d_clause_some_int : Nat → List Nat := fun i => [[], [], [5, 6, 7], []].getD i []
theorem e_clause_some_int : compF Try.prog (fun _ => false) d_clause_some_int 37 = some clause_some_int := by kernel_rfl
theorem b_clause_some_int : bodied Try.prog 37 = true := by kernel_rfl
def d_clause_Units_S1 : Nat → List Nat := fun i => [[], [], [4, 5, 6, 7], []].getD i []
theorem e_clause_Units_S1 : compF Try.prog (fun _ => false) d_clause_Units_S1 38 = some clause_Units_S1 := by kernel_rfl
theorem b_clause_Units_S1 : bodied Try.prog 38 = true := by kernel_rfl
def d_slices_DeleteFunc_int_int : Nat → List Nat := fun i => [[], [], [8, 9, 10], [], [11], [], [13], [], [14, 15], [], [16, 17, 18], [], [20, 21], [], [22, 23, 24, 25], [], [26, 27, 28], [], [30, 31, 32, 33], [], [34, 35], [], [36, 37, 38], [], [39, 40, 41], []].getD i []
theorem e_slices_DeleteFunc_int_int : compF Try.prog (fun _ => false) d_slices_DeleteFunc_int_int 39 = some slices_DeleteFunc_int_int := by kernel_rfl
theorem b_slices_DeleteFunc_int_int : bodied Try.prog 39 = true := by kernel_rfl
def d_clause_Units_S2 : Nat → List Nat := fun i => [[], [], [4, 5, 6, 7, 8], []].getD i []
theorem e_clause_Units_S2 : compF Try.prog (fun _ => false) d_clause_Units_S2 40 = some clause_Units_S2 := by kernel_rfl
theorem b_clause_Units_S2 : bodied Try.prog 40 = true := by kernel_rfl
def d_clause_all_int : Nat → List Nat := fun i => [[], [], [5, 6, 7, 8], []].getD i []
theorem e_clause_all_int : compF Try.prog (fun _ => false) d_clause_all_int 41 = some clause_all_int := by kernel_rfl
theorem b_clause_all_int : bodied Try.prog 41 = true := by kernel_rfl
def d_clause_Units_S3 : Nat → List Nat := fun i => [[], [], [4, 5, 6, 7, 8], []].getD i []
theorem e_clause_Units_S3 : compF Try.prog (fun _ => false) d_clause_Units_S3 42 = some clause_Units_S3 := by kernel_rfl
theorem b_clause_Units_S3 : bodied Try.prog 42 = true := by kernel_rfl
def d_slices_SortFunc_int_int : Nat → List Nat := fun i => [[5, 6], [], [7, 8, 9, 10, 11, 12, 13], []].getD i []
theorem e_slices_SortFunc_int_int : compF Try.prog (fun _ => false) d_slices_SortFunc_int_int 43 = some slices_SortFunc_int_int := by kernel_rfl
theorem b_slices_SortFunc_int_int : bodied Try.prog 43 = true := by kernel_rfl
def d_slices_Compact_int_int : Nat → List Nat := fun i => [[], [], [6, 7], [], [9], [], [], [], [10, 11, 12], [], [14, 15], [], [16, 17, 18, 19, 20, 21, 22, 23, 24], [3, 3, 3, 0, 3, 3, 3, 3, 0, 3], [26, 27, 28], [], [], [], [29, 30, 31], [], [33, 34], [], [35, 36, 37, 38, 39, 40, 41, 42, 43], [3, 3, 3, 0, 3, 3, 3, 3, 0, 3], [45, 46, 47, 48, 49, 50, 51], [], [52, 53], [], [54, 55, 56], [], [57, 58, 59], [], [60], []].getD i []
theorem e_slices_Compact_int_int : compF Try.prog (fun _ => false) d_slices_Compact_int_int 51 = some slices_Compact_int_int := by kernel_rfl
theorem b_slices_Compact_int_int : bodied Try.prog 51 = true := by kernel_rfl
def d_clause_Assign_S1 : Nat → List Nat := fun i => [[], [], [4, 5, 6, 7, 8], []].getD i []
theorem e_clause_Assign_S1 : compF Try.prog (fun _ => false) d_clause_Assign_S1 52 = some clause_Assign_S1 := by kernel_rfl
theorem b_clause_Assign_S1 : bodied Try.prog 52 = true := by kernel_rfl
def d_clause_Assign_S2 : Nat → List Nat := fun i => [[], [], [4, 5, 6, 7], []].getD i []
theorem e_clause_Assign_S2 : compF Try.prog (fun _ => false) d_clause_Assign_S2 53 = some clause_Assign_S2 := by kernel_rfl
theorem b_clause_Assign_S2 : bodied Try.prog 53 = true := by kernel_rfl
def d_clause_Assign_S3 : Nat → List Nat := fun i => [[], [], [4, 5, 6, 7, 8], []].getD i []
theorem e_clause_Assign_S3 : compF Try.prog (fun _ => false) d_clause_Assign_S3 54 = some clause_Assign_S3 := by kernel_rfl
theorem b_clause_Assign_S3 : bodied Try.prog 54 = true := by kernel_rfl
def d_slices_ContainsFunc_int_int : Nat → List Nat := fun i => [[], [], [5, 6, 7, 8], []].getD i []
theorem e_slices_ContainsFunc_int_int : compF Try.prog (fun _ => false) d_slices_ContainsFunc_int_int 58 = some slices_ContainsFunc_int_int := by kernel_rfl
theorem b_slices_ContainsFunc_int_int : bodied Try.prog 58 = true := by kernel_rfl
def d_slices_IndexFunc_int_int : Nat → List Nat := fun i => [[], [], [6], [], [], [], [10], [], [11, 12, 13, 14, 15], [], [17], [], [18], [], [], []].getD i []
theorem e_slices_IndexFunc_int_int : compF Try.prog (fun _ => false) d_slices_IndexFunc_int_int 59 = some slices_IndexFunc_int_int := by kernel_rfl
theorem b_slices_IndexFunc_int_int : bodied Try.prog 59 = true := by kernel_rfl
def d_clause_all_int__S1 : Nat → List Nat := fun i => [[], [], [4, 5, 6, 7], []].getD i []
theorem e_clause_all_int__S1 : compF Try.prog (fun _ => false) d_clause_all_int__S1 60 = some clause_all_int__S1 := by kernel_rfl
theorem b_clause_all_int__S1 : bodied Try.prog 60 = true := by kernel_rfl
theorem tab_ok : TabOk Try.prog tab := fun f A h => by
  unfold tab at h
  split at h
  · cases h; exact ⟨b_proofmarklaw08_RupMore, _, _, e_proofmarklaw08_RupMore⟩
  · cases h; exact ⟨b_proofmarklaw08_RupUnits, _, _, e_proofmarklaw08_RupUnits⟩
  · cases h; exact ⟨b_proofmarklaw08_few, _, _, e_proofmarklaw08_few⟩
  · cases h; exact ⟨b_proofmarklaw08_works, _, _, e_proofmarklaw08_works⟩
  · cases h; exact ⟨b_rup_Short, _, _, e_rup_Short⟩
  · cases h; exact ⟨b_rup_Follows, _, _, e_rup_Follows⟩
  · cases h; exact ⟨b_rup_First, _, _, e_rup_First⟩
  · cases h; exact ⟨b_rup_Check, _, _, e_rup_Check⟩
  · cases h; exact ⟨b_proofmarklaw08_sameRows, _, _, e_proofmarklaw08_sameRows⟩
  · cases h; exact ⟨b_clause_Right, _, _, e_clause_Right⟩
  · cases h; exact ⟨b_clause_Units, _, _, e_clause_Units⟩
  · cases h; exact ⟨b_slices_Clone_int_int, _, _, e_slices_Clone_int_int⟩
  · cases h; exact ⟨b_rup_Short_S1, _, _, e_rup_Short_S1⟩
  · cases h; exact ⟨b_slices_Delete_int_int, _, _, e_slices_Delete_int_int⟩
  · cases h; exact ⟨b_slices_Clone_int_int_29, _, _, e_slices_Clone_int_int_29⟩
  · cases h; exact ⟨b_rup_back, _, _, e_rup_back⟩
  · cases h; exact ⟨b_clause_Clean, _, _, e_clause_Clean⟩
  · cases h; exact ⟨b_clause_Assign, _, _, e_clause_Assign⟩
  · cases h; exact ⟨b_proofmarkkit_SameInts, _, _, e_proofmarkkit_SameInts⟩
  · cases h; exact ⟨b_clause_some_int, _, _, e_clause_some_int⟩
  · cases h; exact ⟨b_clause_Units_S1, _, _, e_clause_Units_S1⟩
  · cases h; exact ⟨b_slices_DeleteFunc_int_int, _, _, e_slices_DeleteFunc_int_int⟩
  · cases h; exact ⟨b_clause_Units_S2, _, _, e_clause_Units_S2⟩
  · cases h; exact ⟨b_clause_all_int, _, _, e_clause_all_int⟩
  · cases h; exact ⟨b_clause_Units_S3, _, _, e_clause_Units_S3⟩
  · cases h; exact ⟨b_slices_SortFunc_int_int, _, _, e_slices_SortFunc_int_int⟩
  · cases h; exact ⟨b_slices_Compact_int_int, _, _, e_slices_Compact_int_int⟩
  · cases h; exact ⟨b_clause_Assign_S1, _, _, e_clause_Assign_S1⟩
  · cases h; exact ⟨b_clause_Assign_S2, _, _, e_clause_Assign_S2⟩
  · cases h; exact ⟨b_clause_Assign_S3, _, _, e_clause_Assign_S3⟩
  · cases h; exact ⟨b_slices_ContainsFunc_int_int, _, _, e_slices_ContainsFunc_int_int⟩
  · cases h; exact ⟨b_slices_IndexFunc_int_int, _, _, e_slices_IndexFunc_int_int⟩
  · cases h; exact ⟨b_clause_all_int__S1, _, _, e_clause_all_int__S1⟩
  · cases h
end Go.Proofs.Ytingdebioipemaa
