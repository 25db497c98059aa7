/- Walks through the functions: what makes each relation true. -/
import Derived.Test.YtjcdkemnflmfiaaGreatW0
set_option linter.unusedVariables false
set_option maxRecDepth 100000
namespace Go.Proofs.YtjcdkemnflmfiaaGreatA
open Go Go.Proofs
noncomputable def law30_StepGroups_l0_s (x7 : Int) (x8 : List T_api_Hop) (x9 : List T_api_Rat) (x12 : Int) (r2_0_0 : ByteArray) (r2_0_1 : Int) (r2_0_2 : Int) (r2_0_3 : Bool) (r2_0_4 : List T71) (r6_0_0 : List T_string) (r6_0_1 : Int) (r11_0_0 : Bool) (r11_0_1 : List Int) (r11_0_2 : List Int) (j : Nat → D) (jb : Nat → Blk) (vs : Nat → Nat) : Cf := cfAt Tryz.f4 [1, 1, 1, 1, 1, 1, 1, 1, 1, 0, 1, 0] ⟨[j 0, j 1, .pref 2 1 0 0, j 3, j 4, j 5, .pref 6 1 0 0, .int .i64 x7, (.list 2 (x8.map E_api_Hop)), (.list 3 (x9.map E_api_Rat)), .nilS, .pref 11 1 0 0, .int .i64 x12, j 13, j 14, j 15, j 16, j 17, j 18, j 19, j 20, j 21, j 22, j 23, j 24, j 25, j 26, j 27, j 28, j 29, j 30, j 31, j 32, j 33, j 34, j 35, j 36, j 37, j 38, j 39, j 40, j 41, j 42, j 43, j 44, j 45, j 46, j 47, j 48, j 49, j 50, j 51, j 52, j 53, j 54, j 55, j 56, j 57, j 58, j 59, j 60, j 61, j 62, j 63, j 64, j 65, j 66, j 67, j 68, j 69, j 70, j 71, j 72, j 73, j 74, j 75, j 76, j 77, j 78, j 79, j 80, j 81, j 82, j 83, j 84, j 85, j 86, j 87, j 88, j 89, j 90, j 91, j 92, j 93, j 94, j 95, j 96, j 97, j 98, j 99, j 100, j 101, j 102, j 103, j 104, j 105, j 106, j 107, j 108, j 109, j 110, j 111, j 112, j 113, j 114, j 115, j 116, j 117, j 118, j 119, j 120, j 121, j 122, j 123, j 124, j 125, j 126, j 127, j 128, j 129, j 130, j 131, j 132, j 133, j 134], [jb 0, jb 1, ⟨1, false, .rows 5 [(.agg [.str r2_0_0, .int .u32 r2_0_1, .int .i64 r2_0_2, .bool r2_0_3, (.list 1 (r2_0_4.map E71))])]⟩, jb 3, jb 4, jb 5, ⟨1, false, .rows 2 [(.agg [(.list 1 (r6_0_0.map E_string)), .int .u64 r6_0_1])]⟩, jb 7, jb 8, jb 9, jb 10, ⟨1, false, .rows 3 [(.agg [.bool r11_0_0, .ints .i64 r11_0_1, .ints .i64 r11_0_2])]⟩, jb 12, jb 13, jb 14, jb 15, jb 16, jb 17, jb 18, jb 19, jb 20, jb 21, jb 22, jb 23, jb 24, jb 25, jb 26, jb 27, jb 28, jb 29, jb 30, jb 31, jb 32, jb 33, jb 34, jb 35, jb 36, jb 37, jb 38, jb 39, jb 40, jb 41, jb 42, jb 43, jb 44, jb 45, jb 46, jb 47, jb 48, jb 49, jb 50, jb 51, jb 52, jb 53, jb 54, jb 55, jb 56, jb 57, jb 58, jb 59, jb 60, jb 61, jb 62, jb 63, jb 64, jb 65, jb 66, jb 67, jb 68, jb 69, jb 70, jb 71, jb 72, jb 73, jb 74, jb 75, jb 76, jb 77, jb 78, jb 79, jb 80, jb 81, jb 82, jb 83, jb 84, jb 85, jb 86, jb 87, jb 88, jb 89, jb 90, jb 91, jb 92, jb 93, jb 94, jb 95, jb 96, jb 97, jb 98, jb 99, jb 100, jb 101, jb 102, jb 103, jb 104, jb 105, jb 106, jb 107, jb 108, jb 109, jb 110, jb 111, jb 112, jb 113, jb 114, jb 115, jb 116, jb 117, jb 118, jb 119, jb 120, jb 121, jb 122, jb 123, jb 124, jb 125, jb 126, jb 127, jb 128, jb 129, jb 130, jb 131, jb 132, jb 133, jb 134]⟩
def law30_StepGroups_l0 (x7 : Int) (x8 : List T_api_Hop) (x9 : List T_api_Rat) (x12 : Int) (r2_0_0 : ByteArray) (r2_0_1 : Int) (r2_0_2 : Int) (r2_0_3 : Bool) (r2_0_4 : List T71) (r6_0_0 : List T_string) (r6_0_1 : Int) (r11_0_0 : Bool) (r11_0_1 : List Int) (r11_0_2 : List Int) (z : Bool) : Prop := ∀ j jb vs, W C F 4 0 (law30_StepGroups_l0_s x7 x8 x9 x12 r2_0_0 r2_0_1 r2_0_2 r2_0_3 r2_0_4 r6_0_0 r6_0_1 r11_0_0 r11_0_1 r11_0_2  j jb vs) (LAns C Tryz.f4 z)
noncomputable def law30_StepGroups_l1_s (x7 : Int) (x8 : List T_api_Hop) (x9 : List T_api_Rat) (x12 : Int) (r2_0_0 : ByteArray) (r2_0_1 : Int) (r2_0_2 : Int) (r2_0_3 : Bool) (r2_0_4 : List T71) (r6_0_0 : List T_string) (r6_0_1 : Int) (r11_0_0 : Bool) (r11_0_1 : List Int) (r11_0_2 : List Int) (r91 : List T_api_Hop) (n91 : Nat) (j : Nat → D) (jb : Nat → Blk) (vs : Nat → Nat) : Cf := cfAt Tryz.f4 [1, 1, 1, 1, 1, 1, 1, 1, 1, 0, 1, 0] ⟨[j 0, j 1, .pref 2 1 0 0, j 3, j 4, j 5, .pref 6 1 0 0, .int .i64 x7, (.list 2 (x8.map E_api_Hop)), (.list 3 (x9.map E_api_Rat)), (.sref 91 ((vs 91) + 1) 2 0 n91), .pref 11 1 0 0, .int .i64 x12, j 13, j 14, j 15, j 16, j 17, j 18, j 19, j 20, j 21, j 22, j 23, j 24, j 25, j 26, j 27, j 28, j 29, j 30, j 31, j 32, j 33, j 34, j 35, j 36, j 37, j 38, j 39, j 40, j 41, j 42, j 43, j 44, j 45, j 46, j 47, j 48, j 49, j 50, j 51, j 52, j 53, j 54, j 55, j 56, j 57, j 58, j 59, j 60, j 61, j 62, j 63, j 64, j 65, j 66, j 67, j 68, j 69, j 70, j 71, j 72, j 73, j 74, j 75, j 76, j 77, j 78, j 79, j 80, j 81, j 82, j 83, j 84, j 85, j 86, j 87, j 88, j 89, j 90, j 91, j 92, j 93, j 94, j 95, j 96, j 97, j 98, j 99, j 100, j 101, j 102, j 103, j 104, j 105, j 106, j 107, j 108, j 109, j 110, j 111, j 112, j 113, j 114, j 115, j 116, j 117, j 118, j 119, j 120, j 121, j 122, j 123, j 124, j 125, j 126, j 127, j 128, j 129, j 130, j 131, j 132, j 133, j 134], [jb 0, jb 1, ⟨1, false, .rows 5 [(.agg [.str r2_0_0, .int .u32 r2_0_1, .int .i64 r2_0_2, .bool r2_0_3, (.list 1 (r2_0_4.map E71))])]⟩, jb 3, jb 4, jb 5, ⟨1, false, .rows 2 [(.agg [(.list 1 (r6_0_0.map E_string)), .int .u64 r6_0_1])]⟩, jb 7, jb 8, jb 9, jb 10, ⟨1, false, .rows 3 [(.agg [.bool r11_0_0, .ints .i64 r11_0_1, .ints .i64 r11_0_2])]⟩, jb 12, jb 13, jb 14, jb 15, jb 16, jb 17, jb 18, jb 19, jb 20, jb 21, jb 22, jb 23, jb 24, jb 25, jb 26, jb 27, jb 28, jb 29, jb 30, jb 31, jb 32, jb 33, jb 34, jb 35, jb 36, jb 37, jb 38, jb 39, jb 40, jb 41, jb 42, jb 43, jb 44, jb 45, jb 46, jb 47, jb 48, jb 49, jb 50, jb 51, jb 52, jb 53, jb 54, jb 55, jb 56, jb 57, jb 58, jb 59, jb 60, jb 61, jb 62, jb 63, jb 64, jb 65, jb 66, jb 67, jb 68, jb 69, jb 70, jb 71, jb 72, jb 73, jb 74, jb 75, jb 76, jb 77, jb 78, jb 79, jb 80, jb 81, jb 82, jb 83, jb 84, jb 85, jb 86, jb 87, jb 88, jb 89, jb 90, ⟨((vs 91) + 1), false, .rows 2 (r91.map E_api_Hop)⟩, jb 92, jb 93, jb 94, jb 95, jb 96, jb 97, jb 98, jb 99, jb 100, jb 101, jb 102, jb 103, jb 104, jb 105, jb 106, jb 107, jb 108, jb 109, jb 110, jb 111, jb 112, jb 113, jb 114, jb 115, jb 116, jb 117, jb 118, jb 119, jb 120, jb 121, jb 122, jb 123, jb 124, jb 125, jb 126, jb 127, jb 128, jb 129, jb 130, jb 131, jb 132, jb 133, jb 134]⟩
def law30_StepGroups_l1 (x7 : Int) (x8 : List T_api_Hop) (x9 : List T_api_Rat) (x12 : Int) (r2_0_0 : ByteArray) (r2_0_1 : Int) (r2_0_2 : Int) (r2_0_3 : Bool) (r2_0_4 : List T71) (r6_0_0 : List T_string) (r6_0_1 : Int) (r11_0_0 : Bool) (r11_0_1 : List Int) (r11_0_2 : List Int) (r91 : List T_api_Hop) (z : Bool) : Prop := ∀ n91, n91 = r91.length → ∀ j jb vs, W C F 4 0 (law30_StepGroups_l1_s x7 x8 x9 x12 r2_0_0 r2_0_1 r2_0_2 r2_0_3 r2_0_4 r6_0_0 r6_0_1 r11_0_0 r11_0_1 r11_0_2 r91 n91 j jb vs) (LAns C Tryz.f4 z)
noncomputable def law30_StepGroups_l2_s (x8 : List T_api_Hop) (x9 : List T_api_Rat) (x14 : Int) (r11_0_0 : Bool) (r11_0_1 : List Int) (r11_0_2 : List Int) (j : Nat → D) (jb : Nat → Blk) (vs : Nat → Nat) : Cf := cfAt Tryz.f4 [1, 1, 1, 1, 1, 1, 1, 1, 1, 1, 1, 0, 1, 0] ⟨[j 0, j 1, j 2, j 3, j 4, j 5, j 6, j 7, (.list 2 (x8.map E_api_Hop)), (.list 3 (x9.map E_api_Rat)), .nilS, .pref 11 1 0 0, j 12, j 13, .int .i64 x14, j 15, j 16, j 17, j 18, j 19, j 20, j 21, j 22, j 23, j 24, j 25, j 26, j 27, j 28, j 29, j 30, j 31, j 32, j 33, j 34, j 35, j 36, j 37, j 38, j 39, j 40, j 41, j 42, j 43, j 44, j 45, j 46, j 47, j 48, j 49, j 50, j 51, j 52, j 53, j 54, j 55, j 56, j 57, j 58, j 59, j 60, j 61, j 62, j 63, j 64, j 65, j 66, j 67, j 68, j 69, j 70, j 71, j 72, j 73, j 74, j 75, j 76, j 77, j 78, j 79, j 80, j 81, j 82, j 83, j 84, j 85, j 86, j 87, j 88, j 89, j 90, j 91, j 92, j 93, j 94, j 95, j 96, j 97, j 98, j 99, j 100, j 101, j 102, j 103, j 104, j 105, j 106, j 107, j 108, j 109, j 110, j 111, j 112, j 113, j 114, j 115, j 116, j 117, j 118, j 119, j 120, j 121, j 122, j 123, j 124, j 125, j 126, j 127, j 128, j 129, j 130, j 131, j 132, j 133, j 134], [jb 0, jb 1, jb 2, jb 3, jb 4, jb 5, jb 6, jb 7, jb 8, jb 9, jb 10, ⟨1, false, .rows 3 [(.agg [.bool r11_0_0, .ints .i64 r11_0_1, .ints .i64 r11_0_2])]⟩, jb 12, jb 13, jb 14, jb 15, jb 16, jb 17, jb 18, jb 19, jb 20, jb 21, jb 22, jb 23, jb 24, jb 25, jb 26, jb 27, jb 28, jb 29, jb 30, jb 31, jb 32, jb 33, jb 34, jb 35, jb 36, jb 37, jb 38, jb 39, jb 40, jb 41, jb 42, jb 43, jb 44, jb 45, jb 46, jb 47, jb 48, jb 49, jb 50, jb 51, jb 52, jb 53, jb 54, jb 55, jb 56, jb 57, jb 58, jb 59, jb 60, jb 61, jb 62, jb 63, jb 64, jb 65, jb 66, jb 67, jb 68, jb 69, jb 70, jb 71, jb 72, jb 73, jb 74, jb 75, jb 76, jb 77, jb 78, jb 79, jb 80, jb 81, jb 82, jb 83, jb 84, jb 85, jb 86, jb 87, jb 88, jb 89, jb 90, jb 91, jb 92, jb 93, jb 94, jb 95, jb 96, jb 97, jb 98, jb 99, jb 100, jb 101, jb 102, jb 103, jb 104, jb 105, jb 106, jb 107, jb 108, jb 109, jb 110, jb 111, jb 112, jb 113, jb 114, jb 115, jb 116, jb 117, jb 118, jb 119, jb 120, jb 121, jb 122, jb 123, jb 124, jb 125, jb 126, jb 127, jb 128, jb 129, jb 130, jb 131, jb 132, jb 133, jb 134]⟩
def law30_StepGroups_l2 (x8 : List T_api_Hop) (x9 : List T_api_Rat) (x14 : Int) (r11_0_0 : Bool) (r11_0_1 : List Int) (r11_0_2 : List Int) (z : Bool) : Prop := ∀ j jb vs, W C F 4 0 (law30_StepGroups_l2_s x8 x9 x14 r11_0_0 r11_0_1 r11_0_2  j jb vs) (LAns C Tryz.f4 z)
noncomputable def law30_StepGroups_l3_s (x8 : List T_api_Hop) (x9 : List T_api_Rat) (x14 : Int) (r11_0_0 : Bool) (r11_0_1 : List Int) (r11_0_2 : List Int) (r91 : List T_api_Hop) (n91 : Nat) (j : Nat → D) (jb : Nat → Blk) (vs : Nat → Nat) : Cf := cfAt Tryz.f4 [1, 1, 1, 1, 1, 1, 1, 1, 1, 1, 1, 0, 1, 0] ⟨[j 0, j 1, j 2, j 3, j 4, j 5, j 6, j 7, (.list 2 (x8.map E_api_Hop)), (.list 3 (x9.map E_api_Rat)), (.sref 91 ((vs 91) + 1) 2 0 n91), .pref 11 1 0 0, j 12, j 13, .int .i64 x14, j 15, j 16, j 17, j 18, j 19, j 20, j 21, j 22, j 23, j 24, j 25, j 26, j 27, j 28, j 29, j 30, j 31, j 32, j 33, j 34, j 35, j 36, j 37, j 38, j 39, j 40, j 41, j 42, j 43, j 44, j 45, j 46, j 47, j 48, j 49, j 50, j 51, j 52, j 53, j 54, j 55, j 56, j 57, j 58, j 59, j 60, j 61, j 62, j 63, j 64, j 65, j 66, j 67, j 68, j 69, j 70, j 71, j 72, j 73, j 74, j 75, j 76, j 77, j 78, j 79, j 80, j 81, j 82, j 83, j 84, j 85, j 86, j 87, j 88, j 89, j 90, j 91, j 92, j 93, j 94, j 95, j 96, j 97, j 98, j 99, j 100, j 101, j 102, j 103, j 104, j 105, j 106, j 107, j 108, j 109, j 110, j 111, j 112, j 113, j 114, j 115, j 116, j 117, j 118, j 119, j 120, j 121, j 122, j 123, j 124, j 125, j 126, j 127, j 128, j 129, j 130, j 131, j 132, j 133, j 134], [jb 0, jb 1, jb 2, jb 3, jb 4, jb 5, jb 6, jb 7, jb 8, jb 9, jb 10, ⟨1, false, .rows 3 [(.agg [.bool r11_0_0, .ints .i64 r11_0_1, .ints .i64 r11_0_2])]⟩, jb 12, jb 13, jb 14, jb 15, jb 16, jb 17, jb 18, jb 19, jb 20, jb 21, jb 22, jb 23, jb 24, jb 25, jb 26, jb 27, jb 28, jb 29, jb 30, jb 31, jb 32, jb 33, jb 34, jb 35, jb 36, jb 37, jb 38, jb 39, jb 40, jb 41, jb 42, jb 43, jb 44, jb 45, jb 46, jb 47, jb 48, jb 49, jb 50, jb 51, jb 52, jb 53, jb 54, jb 55, jb 56, jb 57, jb 58, jb 59, jb 60, jb 61, jb 62, jb 63, jb 64, jb 65, jb 66, jb 67, jb 68, jb 69, jb 70, jb 71, jb 72, jb 73, jb 74, jb 75, jb 76, jb 77, jb 78, jb 79, jb 80, jb 81, jb 82, jb 83, jb 84, jb 85, jb 86, jb 87, jb 88, jb 89, jb 90, ⟨((vs 91) + 1), false, .rows 2 (r91.map E_api_Hop)⟩, jb 92, jb 93, jb 94, jb 95, jb 96, jb 97, jb 98, jb 99, jb 100, jb 101, jb 102, jb 103, jb 104, jb 105, jb 106, jb 107, jb 108, jb 109, jb 110, jb 111, jb 112, jb 113, jb 114, jb 115, jb 116, jb 117, jb 118, jb 119, jb 120, jb 121, jb 122, jb 123, jb 124, jb 125, jb 126, jb 127, jb 128, jb 129, jb 130, jb 131, jb 132, jb 133, jb 134]⟩
def law30_StepGroups_l3 (x8 : List T_api_Hop) (x9 : List T_api_Rat) (x14 : Int) (r11_0_0 : Bool) (r11_0_1 : List Int) (r11_0_2 : List Int) (r91 : List T_api_Hop) (z : Bool) : Prop := ∀ n91, n91 = r91.length → ∀ j jb vs, W C F 4 0 (law30_StepGroups_l3_s x8 x9 x14 r11_0_0 r11_0_1 r11_0_2 r91 n91 j jb vs) (LAns C Tryz.f4 z)
theorem law30_StepGroups_l0_go {x7 : Int} {x8 : List T_api_Hop} {x9 : List T_api_Rat} {x12 : Int} {r2_0_0 : ByteArray} {r2_0_1 : Int} {r2_0_2 : Int} {r2_0_3 : Bool} {r2_0_4 : List T71} {r6_0_0 : List T_string} {r6_0_1 : Int} {r11_0_0 : Bool} {r11_0_1 : List Int} {r11_0_2 : List Int} {z : Bool} (H : (0 ≤ x7 ∧ (x7 < (r2_0_4.length : Int) ∧ ((x12 < ((r2_0_4.getD (x7).toNat []).length : Int) ∧ (0 ≤ x12 ∧ (∃ e23 : ByteArray, (∃ e24 : Int, ((r2_0_4.getD (x7).toNat []).getD (x12).toNat (ByteArray.empty, 0) = (e23, e24) ∧ (∃ c26 : Bool, (_law30_names__is_R r6_0_0 r6_0_1 e23 c26 ∧ ((c26 = true ∧ ((e24 < 1 ∧ (((x8.length : Int) = 0 ∧ (∃ c31 : Bool, (law30_works_R c31 ∧ (z = c31)))) ∨ (¬ (x8.length : Int) = 0 ∧ (z = false)))) ∨ (¬ e24 < 1 ∧ ((1 + 192) * (24 + 1) ≤ 70368744177664 ∧ (∃ y33 : List T_api_Hop, y33 = [(e23, e24)] ∧ (∃ c37_0 : Bool, (∃ c37_1 : List Int, (∃ c37_2 : List Int, (ref08_Num_R e24 1 c37_0 c37_1 c37_2 ∧ (∃ c39_0 : Bool, (∃ c39_1 : List Int, (∃ c39_2 : List Int, (ref08_Add_R r11_0_0 r11_0_1 r11_0_2 c37_0 c37_1 c37_2 c39_0 c39_1 c39_2 ∧ (law30_StepGroups_l1 x7 x8 x9 (wi (x12 + 1)) r2_0_0 r2_0_1 r2_0_2 r2_0_3 r2_0_4 r6_0_0 r6_0_1 c39_0 c39_1 c39_2 y33 z)))))))))))))) ∨ (¬ c26 = true ∧ (law30_StepGroups_l0 x7 x8 x9 (wi (x12 + 1)) r2_0_0 r2_0_1 r2_0_2 r2_0_3 r2_0_4 r6_0_0 r6_0_1 r11_0_0 r11_0_1 r11_0_2 z)))))))))) ∨ (¬ x12 < ((r2_0_4.getD (x7).toNat []).length : Int) ∧ (((x8.length : Int) = 0 ∧ (law30_StepGroups_l2 x8 x9 0 r11_0_0 r11_0_1 r11_0_2 z)) ∨ (¬ (x8.length : Int) = 0 ∧ (z = false)))))))) : law30_StepGroups_l0 x7 x8 x9 x12 r2_0_0 r2_0_1 r2_0_2 r2_0_3 r2_0_4 r6_0_0 r6_0_1 r11_0_0 r11_0_1 r11_0_2 z := by
 intro j jb vs
 refine W.adv 1 ?_
 refine W.adv 7 ?_
 obtain ⟨h19, h20, H⟩ := H
 refine W.opS (OpIs.ixE (enc := E71) (n := 1) (k' := .i64) (L := r2_0_4) (i := x7) (d0 := []) (x := (r2_0_4.getD (x7).toNat [])) (by kernel_rfl) h19 h20 rfl) ?_
 refine W.adv 1 ?_
 refine W.opS (OpIs.ln (n := ((r2_0_4.getD (x7).toNat []).map E_api_Hop).length) (m := (r2_0_4.getD (x7).toNat []).length) (by kernel_rfl) (by rw [List.length_map])) ?_
 refine W.adv 3 ?_
 rcases H with ⟨h21, H⟩ | ⟨h21, H⟩
 ·refine W.cond true (w := (decide (x12 < ((r2_0_4.getD (x7).toNat []).length : Int)))) (by kernel_rfl) (decide_eq_true h21) ?_
  refine W.adv 9 ?_
  refine W.opS (OpIs.ixE (enc := E71) (n := 1) (k' := .i64) (L := r2_0_4) (i := x7) (d0 := []) (x := (r2_0_4.getD (x7).toNat [])) (by kernel_rfl) h19 h20 rfl) ?_
  refine W.adv 2 ?_
  obtain ⟨h22, H⟩ := H
  obtain ⟨e23, e24, he25, H⟩ := H
  refine W.opS (OpIs.ixE (enc := E_api_Hop) (n := 2) (k' := .i64) (L := (r2_0_4.getD (x7).toNat [])) (i := x12) (d0 := (ByteArray.empty, 0)) (x := (e23, e24)) (by kernel_rfl) h22 h21 he25) ?_
  refine W.adv 2 ?_
  refine W.opH (OpIs.stV (b := 13) (v := ((jb 13).ver + 1)) (i := 0) (off := 0) (w := ((jb 13).ver + 1)) (n := 2) (s := 2) (xs := [(.agg [.str ⟨#[]⟩, .int .i64 0])]) (ys := [(.agg [.str e23, .int .i64 e24])]) (d := (.agg [.str ⟨#[]⟩, .int .i64 0])) (y := (.agg [.str e23, .int .i64 e24])) (by kernel_rfl) rfl (by kernel_rfl) (by kernel_rfl) (Nat.le_of_ble_eq_true (by kernel_rfl)) (by kernel_rfl) (by kernel_rfl)) ?_
  refine W.adv 7 ?_
  refine W.opS (OpIs.ldV (b := 13) (v := ((jb 13).ver + 1)) (i := 0) (off := 0) (w := ((jb 13).ver + 1)) (n := 2) (s := 1) (fz := false) (a := false) (xs := [(.agg [.str e23, .int .i64 e24])]) (r := (.str e23)) (by kernel_rfl) rfl (by kernel_rfl)) ?_
  obtain ⟨c26, hc27, H⟩ := H
  refine W.callR (g := 20) (ds := [(.agg [(.list 1 (r6_0_0.map E_string)), .int .u64 r6_0_1]), .str e23]) (es := [(.agg [(.list 1 (r6_0_0.map E_string)), .int .u64 r6_0_1]), .str e23]) (r := (.bool c26)) (by kernel_rfl) (by kernel_rfl) (Ic.args hc27 (by kernel_rfl)) (by kernel_rfl) ?_
  refine W.adv 3 ?_
  rcases H with ⟨h28, H⟩ | ⟨h28, H⟩
  ·refine W.cond false (w := (!c26)) (by kernel_rfl) (congrArg (fun b => !b) h28) ?_
   refine W.adv 6 ?_
   refine W.opS (OpIs.ldV (b := 13) (v := ((jb 13).ver + 1)) (i := 0) (off := 1) (w := ((jb 13).ver + 1)) (n := 2) (s := 1) (fz := false) (a := false) (xs := [(.agg [.str e23, .int .i64 e24])]) (r := (.int .i64 e24)) (by kernel_rfl) rfl (by kernel_rfl)) ?_
   refine W.adv 3 ?_
   rcases H with ⟨h29, H⟩ | ⟨h29, H⟩
   ·refine W.cond true (w := (decide (e24 < 1))) (by kernel_rfl) (decide_eq_true h29) ?_
    refine W.adv 3 ?_
    refine W.opS (OpIs.ln (n := (x8.map E_api_Hop).length) (m := x8.length) (by kernel_rfl) (by rw [List.length_map])) ?_
    refine W.adv 2 ?_
    rcases H with ⟨h30, H⟩ | ⟨h30, H⟩
    ·refine W.guard true (w := ((decide ((x8.length : Int) = 0)) == true)) (by kernel_rfl) (congrArg (fun b => b == true) (decide_eq_true h30)) ?_
     obtain ⟨c31, hc32, H⟩ := H
     refine W.callR (g := 10) (ds := []) (es := []) (r := (.bool c31)) (by kernel_rfl) (by kernel_rfl) (Ic.args hc32 (by kernel_rfl)) (by kernel_rfl) ?_
     refine W.opS (OpIs.pk true (t := (decide ((x8.length : Int) = 0))) (x := (.bool c31)) (y := (.bool false)) (by kernel_rfl) (decide_eq_true h30)) ?_
     refine W.adv 10 ?_
     exact W.fin (x := .ret) (by kernel_rfl) (LAns.of (d := (.bool c31)) (by kernel_rfl) (by rw [H]))
    ·refine W.guard false (w := ((decide ((x8.length : Int) = 0)) == true)) (by kernel_rfl) (congrArg (fun b => b == true) (decide_eq_false h30)) ?_
     refine W.opS (OpIs.pk false (t := (decide ((x8.length : Int) = 0))) (x := (.tuple [])) (y := (.bool false)) (by kernel_rfl) (decide_eq_false h30)) ?_
     refine W.adv 10 ?_
     exact W.fin (x := .ret) (by kernel_rfl) (LAns.of (d := (.bool false)) (by kernel_rfl) (by rw [H]))
   ·refine W.cond false (w := (decide (e24 < 1))) (by kernel_rfl) (decide_eq_false h29) ?_
    refine W.adv 4 ?_
    refine W.opS (OpIs.ldV (b := 13) (v := ((jb 13).ver + 1)) (i := 0) (off := 0) (w := ((jb 13).ver + 1)) (n := 2) (s := 2) (fz := false) (a := true) (xs := [(.agg [.str e23, .int .i64 e24])]) (r := (.agg [.str e23, .int .i64 e24])) (by kernel_rfl) rfl (by kernel_rfl)) ?_
    refine W.adv 1 ?_
    obtain ⟨h36, H⟩ := H
    obtain ⟨y33, hy34, H⟩ := H
    have ln35 : 1 = y33.length := by rw [hy34] <;> rfl
    refine W.opH (OpIs.apENil (enc := E_api_Hop) (y := (.lit (.list 2 [(.agg [.str e23, .int .i64 e24])]))) (B := none) (n := 24) (d := 91) (v := (jb 91).ver) (m := 2) (ys := [(e23, e24)]) (by kernel_rfl) (by kernel_rfl) hy34 h36) ?_
    refine W.adv 2 ?_
    refine W.opS (OpIs.ldV (b := 13) (v := ((jb 13).ver + 1)) (i := 0) (off := 1) (w := ((jb 13).ver + 1)) (n := 2) (s := 1) (fz := false) (a := false) (xs := [(.agg [.str e23, .int .i64 e24])]) (r := (.int .i64 e24)) (by kernel_rfl) rfl (by kernel_rfl)) ?_
    obtain ⟨c37_0, c37_1, c37_2, hc38, H⟩ := H
    refine W.callR (g := 22) (ds := [.int .i64 e24, .int .i64 1]) (es := [.int .i64 e24, .int .i64 1]) (r := (.agg [.bool c37_0, .ints .i64 c37_1, .ints .i64 c37_2])) (by kernel_rfl) (by kernel_rfl) (Ic.args hc38 (by kernel_rfl)) (by kernel_rfl) ?_
    obtain ⟨c39_0, c39_1, c39_2, hc40, H⟩ := H
    refine W.callR (g := 23) (ds := [(.agg [.bool r11_0_0, .ints .i64 r11_0_1, .ints .i64 r11_0_2]), (.agg [.bool c37_0, .ints .i64 c37_1, .ints .i64 c37_2])]) (es := [(.agg [.bool r11_0_0, .ints .i64 r11_0_1, .ints .i64 r11_0_2]), (.agg [.bool c37_0, .ints .i64 c37_1, .ints .i64 c37_2])]) (r := (.agg [.bool c39_0, .ints .i64 c39_1, .ints .i64 c39_2])) (by kernel_rfl) (by kernel_rfl) (Ic.args hc40 (by kernel_rfl)) (by kernel_rfl) ?_
    refine W.adv 11 ?_
    exact W.to_loop (P := law30_StepGroups_l1_s x7 x8 x9 (wi (x12 + 1)) r2_0_0 r2_0_1 r2_0_2 r2_0_3 r2_0_4 r6_0_0 r6_0_1 c39_0 c39_1 c39_2 y33 1) (H _ ln35) (by kernel_rfl)
  ·refine W.cond true (w := (!c26)) (by kernel_rfl) (congrArg (fun b => !b) (bfalse h28)) ?_
   refine W.adv 10 ?_
   exact W.to_loop (P := law30_StepGroups_l0_s x7 x8 x9 (wi (x12 + 1)) r2_0_0 r2_0_1 r2_0_2 r2_0_3 r2_0_4 r6_0_0 r6_0_1 r11_0_0 r11_0_1 r11_0_2) (H ) (by kernel_rfl)
 ·refine W.cond false (w := (decide (x12 < ((r2_0_4.getD (x7).toNat []).length : Int)))) (by kernel_rfl) (decide_eq_false h21) ?_
  refine W.adv 9 ?_
  refine W.opS (OpIs.ln (n := (x8.map E_api_Hop).length) (m := x8.length) (by kernel_rfl) (by rw [List.length_map])) ?_
  refine W.adv 5 ?_
  rcases H with ⟨h41, H⟩ | ⟨h41, H⟩
  ·refine W.cond false (w := (!(decide ((x8.length : Int) = 0)))) (by kernel_rfl) (congrArg (fun b => !b) (decide_eq_true h41)) ?_
   refine W.adv 9 ?_
   exact W.to_loop (P := law30_StepGroups_l2_s x8 x9 0 r11_0_0 r11_0_1 r11_0_2) (H ) (by kernel_rfl)
  ·refine W.cond true (w := (!(decide ((x8.length : Int) = 0)))) (by kernel_rfl) (congrArg (fun b => !b) (decide_eq_false h41)) ?_
   refine W.adv 7 ?_
   exact W.fin (x := .ret) (by kernel_rfl) (LAns.of (d := (.bool false)) (by kernel_rfl) (by rw [H]))
theorem law30_StepGroups_l1_go {x7 : Int} {x8 : List T_api_Hop} {x9 : List T_api_Rat} {x12 : Int} {r2_0_0 : ByteArray} {r2_0_1 : Int} {r2_0_2 : Int} {r2_0_3 : Bool} {r2_0_4 : List T71} {r6_0_0 : List T_string} {r6_0_1 : Int} {r11_0_0 : Bool} {r11_0_1 : List Int} {r11_0_2 : List Int} {r91 : List T_api_Hop} {z : Bool} (H : (0 ≤ x7 ∧ (x7 < (r2_0_4.length : Int) ∧ ((x12 < ((r2_0_4.getD (x7).toNat []).length : Int) ∧ (0 ≤ x12 ∧ (∃ e46 : ByteArray, (∃ e47 : Int, ((r2_0_4.getD (x7).toNat []).getD (x12).toNat (ByteArray.empty, 0) = (e46, e47) ∧ (∃ c49 : Bool, (_law30_names__is_R r6_0_0 r6_0_1 e46 c49 ∧ ((c49 = true ∧ ((e47 < 1 ∧ (((x8.length : Int) = 0 ∧ (∃ c54 : Bool, (law30_works_R c54 ∧ (z = c54)))) ∨ (¬ (x8.length : Int) = 0 ∧ (z = false)))) ∨ (¬ e47 < 1 ∧ ((r91.length + 1 + 192) * (24 + 1) ≤ 70368744177664 ∧ (∃ y56 : List T_api_Hop, y56 = r91 ++ [(e46, e47)] ∧ (∃ c60_0 : Bool, (∃ c60_1 : List Int, (∃ c60_2 : List Int, (ref08_Num_R e47 1 c60_0 c60_1 c60_2 ∧ (∃ c62_0 : Bool, (∃ c62_1 : List Int, (∃ c62_2 : List Int, (ref08_Add_R r11_0_0 r11_0_1 r11_0_2 c60_0 c60_1 c60_2 c62_0 c62_1 c62_2 ∧ (law30_StepGroups_l1 x7 x8 x9 (wi (x12 + 1)) r2_0_0 r2_0_1 r2_0_2 r2_0_3 r2_0_4 r6_0_0 r6_0_1 c62_0 c62_1 c62_2 y56 z)))))))))))))) ∨ (¬ c49 = true ∧ (law30_StepGroups_l1 x7 x8 x9 (wi (x12 + 1)) r2_0_0 r2_0_1 r2_0_2 r2_0_3 r2_0_4 r6_0_0 r6_0_1 r11_0_0 r11_0_1 r11_0_2 r91 z)))))))))) ∨ (¬ x12 < ((r2_0_4.getD (x7).toNat []).length : Int) ∧ (((x8.length : Int) = (r91.length : Int) ∧ (law30_StepGroups_l3 x8 x9 0 r11_0_0 r11_0_1 r11_0_2 r91 z)) ∨ (¬ (x8.length : Int) = (r91.length : Int) ∧ (z = false)))))))) : law30_StepGroups_l1 x7 x8 x9 x12 r2_0_0 r2_0_1 r2_0_2 r2_0_3 r2_0_4 r6_0_0 r6_0_1 r11_0_0 r11_0_1 r11_0_2 r91 z := by
 intro n91 ln_91 j jb vs
 refine W.adv 1 ?_
 refine W.adv 7 ?_
 obtain ⟨h42, h43, H⟩ := H
 refine W.opS (OpIs.ixE (enc := E71) (n := 1) (k' := .i64) (L := r2_0_4) (i := x7) (d0 := []) (x := (r2_0_4.getD (x7).toNat [])) (by kernel_rfl) h42 h43 rfl) ?_
 refine W.adv 1 ?_
 refine W.opS (OpIs.ln (n := ((r2_0_4.getD (x7).toNat []).map E_api_Hop).length) (m := (r2_0_4.getD (x7).toNat []).length) (by kernel_rfl) (by rw [List.length_map])) ?_
 refine W.adv 3 ?_
 rcases H with ⟨h44, H⟩ | ⟨h44, H⟩
 ·refine W.cond true (w := (decide (x12 < ((r2_0_4.getD (x7).toNat []).length : Int)))) (by kernel_rfl) (decide_eq_true h44) ?_
  refine W.adv 9 ?_
  refine W.opS (OpIs.ixE (enc := E71) (n := 1) (k' := .i64) (L := r2_0_4) (i := x7) (d0 := []) (x := (r2_0_4.getD (x7).toNat [])) (by kernel_rfl) h42 h43 rfl) ?_
  refine W.adv 2 ?_
  obtain ⟨h45, H⟩ := H
  obtain ⟨e46, e47, he48, H⟩ := H
  refine W.opS (OpIs.ixE (enc := E_api_Hop) (n := 2) (k' := .i64) (L := (r2_0_4.getD (x7).toNat [])) (i := x12) (d0 := (ByteArray.empty, 0)) (x := (e46, e47)) (by kernel_rfl) h45 h44 he48) ?_
  refine W.adv 2 ?_
  refine W.opH (OpIs.stV (b := 13) (v := ((jb 13).ver + 1)) (i := 0) (off := 0) (w := ((jb 13).ver + 1)) (n := 2) (s := 2) (xs := [(.agg [.str ⟨#[]⟩, .int .i64 0])]) (ys := [(.agg [.str e46, .int .i64 e47])]) (d := (.agg [.str ⟨#[]⟩, .int .i64 0])) (y := (.agg [.str e46, .int .i64 e47])) (by kernel_rfl) rfl (by kernel_rfl) (by kernel_rfl) (Nat.le_of_ble_eq_true (by kernel_rfl)) (by kernel_rfl) (by kernel_rfl)) ?_
  refine W.adv 7 ?_
  refine W.opS (OpIs.ldV (b := 13) (v := ((jb 13).ver + 1)) (i := 0) (off := 0) (w := ((jb 13).ver + 1)) (n := 2) (s := 1) (fz := false) (a := false) (xs := [(.agg [.str e46, .int .i64 e47])]) (r := (.str e46)) (by kernel_rfl) rfl (by kernel_rfl)) ?_
  obtain ⟨c49, hc50, H⟩ := H
  refine W.callR (g := 20) (ds := [(.agg [(.list 1 (r6_0_0.map E_string)), .int .u64 r6_0_1]), .str e46]) (es := [(.agg [(.list 1 (r6_0_0.map E_string)), .int .u64 r6_0_1]), .str e46]) (r := (.bool c49)) (by kernel_rfl) (by kernel_rfl) (Ic.args hc50 (by kernel_rfl)) (by kernel_rfl) ?_
  refine W.adv 3 ?_
  rcases H with ⟨h51, H⟩ | ⟨h51, H⟩
  ·refine W.cond false (w := (!c49)) (by kernel_rfl) (congrArg (fun b => !b) h51) ?_
   refine W.adv 6 ?_
   refine W.opS (OpIs.ldV (b := 13) (v := ((jb 13).ver + 1)) (i := 0) (off := 1) (w := ((jb 13).ver + 1)) (n := 2) (s := 1) (fz := false) (a := false) (xs := [(.agg [.str e46, .int .i64 e47])]) (r := (.int .i64 e47)) (by kernel_rfl) rfl (by kernel_rfl)) ?_
   refine W.adv 3 ?_
   rcases H with ⟨h52, H⟩ | ⟨h52, H⟩
   ·refine W.cond true (w := (decide (e47 < 1))) (by kernel_rfl) (decide_eq_true h52) ?_
    refine W.adv 3 ?_
    refine W.opS (OpIs.ln (n := (x8.map E_api_Hop).length) (m := x8.length) (by kernel_rfl) (by rw [List.length_map])) ?_
    refine W.adv 2 ?_
    rcases H with ⟨h53, H⟩ | ⟨h53, H⟩
    ·refine W.guard true (w := ((decide ((x8.length : Int) = 0)) == true)) (by kernel_rfl) (congrArg (fun b => b == true) (decide_eq_true h53)) ?_
     obtain ⟨c54, hc55, H⟩ := H
     refine W.callR (g := 10) (ds := []) (es := []) (r := (.bool c54)) (by kernel_rfl) (by kernel_rfl) (Ic.args hc55 (by kernel_rfl)) (by kernel_rfl) ?_
     refine W.opS (OpIs.pk true (t := (decide ((x8.length : Int) = 0))) (x := (.bool c54)) (y := (.bool false)) (by kernel_rfl) (decide_eq_true h53)) ?_
     refine W.adv 10 ?_
     exact W.fin (x := .ret) (by kernel_rfl) (LAns.of (d := (.bool c54)) (by kernel_rfl) (by rw [H]))
    ·refine W.guard false (w := ((decide ((x8.length : Int) = 0)) == true)) (by kernel_rfl) (congrArg (fun b => b == true) (decide_eq_false h53)) ?_
     refine W.opS (OpIs.pk false (t := (decide ((x8.length : Int) = 0))) (x := (.tuple [])) (y := (.bool false)) (by kernel_rfl) (decide_eq_false h53)) ?_
     refine W.adv 10 ?_
     exact W.fin (x := .ret) (by kernel_rfl) (LAns.of (d := (.bool false)) (by kernel_rfl) (by rw [H]))
   ·refine W.cond false (w := (decide (e47 < 1))) (by kernel_rfl) (decide_eq_false h52) ?_
    refine W.adv 4 ?_
    refine W.opS (OpIs.ldV (b := 13) (v := ((jb 13).ver + 1)) (i := 0) (off := 0) (w := ((jb 13).ver + 1)) (n := 2) (s := 2) (fz := false) (a := true) (xs := [(.agg [.str e46, .int .i64 e47])]) (r := (.agg [.str e46, .int .i64 e47])) (by kernel_rfl) rfl (by kernel_rfl)) ?_
    refine W.adv 1 ?_
    obtain ⟨h59, H⟩ := H
    obtain ⟨y56, hy57, H⟩ := H
    have ln58 : (r91.length + 1) = y56.length := by rw [hy57, List.length_append] <;> rfl
    refine W.opK (OpIs.apERow (enc := E_api_Hop) (y := (.lit (.list 2 [(.agg [.str e46, .int .i64 e47])]))) (n := 24) (d := 91) (dv := ((vs 91) + 1)) (b := 91) (v := ((vs 91) + 1)) (w := ((vs 91) + 1)) (len := n91) (m := 2) (xs := r91) (ys := [(e46, e47)]) (by kernel_rfl) (by kernel_rfl) hy57 rfl ln_91 h59) ?_
    refine W.adv 2 ?_
    refine W.opS (OpIs.ldV (b := 13) (v := ((jb 13).ver + 1)) (i := 0) (off := 1) (w := ((jb 13).ver + 1)) (n := 2) (s := 1) (fz := false) (a := false) (xs := [(.agg [.str e46, .int .i64 e47])]) (r := (.int .i64 e47)) (by kernel_rfl) rfl (by kernel_rfl)) ?_
    obtain ⟨c60_0, c60_1, c60_2, hc61, H⟩ := H
    refine W.callR (g := 22) (ds := [.int .i64 e47, .int .i64 1]) (es := [.int .i64 e47, .int .i64 1]) (r := (.agg [.bool c60_0, .ints .i64 c60_1, .ints .i64 c60_2])) (by kernel_rfl) (by kernel_rfl) (Ic.args hc61 (by kernel_rfl)) (by kernel_rfl) ?_
    obtain ⟨c62_0, c62_1, c62_2, hc63, H⟩ := H
    refine W.callR (g := 23) (ds := [(.agg [.bool r11_0_0, .ints .i64 r11_0_1, .ints .i64 r11_0_2]), (.agg [.bool c60_0, .ints .i64 c60_1, .ints .i64 c60_2])]) (es := [(.agg [.bool r11_0_0, .ints .i64 r11_0_1, .ints .i64 r11_0_2]), (.agg [.bool c60_0, .ints .i64 c60_1, .ints .i64 c60_2])]) (r := (.agg [.bool c62_0, .ints .i64 c62_1, .ints .i64 c62_2])) (by kernel_rfl) (by kernel_rfl) (Ic.args hc63 (by kernel_rfl)) (by kernel_rfl) ?_
    refine W.adv 11 ?_
    exact W.to_loop (P := law30_StepGroups_l1_s x7 x8 x9 (wi (x12 + 1)) r2_0_0 r2_0_1 r2_0_2 r2_0_3 r2_0_4 r6_0_0 r6_0_1 c62_0 c62_1 c62_2 y56 (r91.length + 1)) (H _ ln58) (by kernel_rfl)
  ·refine W.cond true (w := (!c49)) (by kernel_rfl) (congrArg (fun b => !b) (bfalse h51)) ?_
   refine W.adv 10 ?_
   exact W.to_loop (P := law30_StepGroups_l1_s x7 x8 x9 (wi (x12 + 1)) r2_0_0 r2_0_1 r2_0_2 r2_0_3 r2_0_4 r6_0_0 r6_0_1 r11_0_0 r11_0_1 r11_0_2 r91 n91) (H _ ln_91) (by kernel_rfl)
 ·refine W.cond false (w := (decide (x12 < ((r2_0_4.getD (x7).toNat []).length : Int)))) (by kernel_rfl) (decide_eq_false h44) ?_
  refine W.adv 9 ?_
  refine W.opS (OpIs.ln (n := (x8.map E_api_Hop).length) (m := x8.length) (by kernel_rfl) (by rw [List.length_map])) ?_
  refine W.adv 1 ?_
  refine W.opS (OpIs.ln (n := n91) (m := r91.length) (by kernel_rfl) ln_91) ?_
  refine W.adv 3 ?_
  rcases H with ⟨h64, H⟩ | ⟨h64, H⟩
  ·refine W.cond false (w := (!(decide ((x8.length : Int) = (r91.length : Int))))) (by kernel_rfl) (congrArg (fun b => !b) (decide_eq_true h64)) ?_
   refine W.adv 9 ?_
   exact W.to_loop (P := law30_StepGroups_l3_s x8 x9 0 r11_0_0 r11_0_1 r11_0_2 r91 n91) (H _ ln_91) (by kernel_rfl)
  ·refine W.cond true (w := (!(decide ((x8.length : Int) = (r91.length : Int))))) (by kernel_rfl) (congrArg (fun b => !b) (decide_eq_false h64)) ?_
   refine W.adv 7 ?_
   exact W.fin (x := .ret) (by kernel_rfl) (LAns.of (d := (.bool false)) (by kernel_rfl) (by rw [H]))
theorem law30_StepGroups_l3_go {x8 : List T_api_Hop} {x9 : List T_api_Rat} {x14 : Int} {r11_0_0 : Bool} {r11_0_1 : List Int} {r11_0_2 : List Int} {r91 : List T_api_Hop} {z : Bool} (H : ((x14 < (x8.length : Int) ∧ (0 ≤ x14 ∧ (∃ e74 : ByteArray, (∃ e75 : Int, (x8.getD (x14).toNat (ByteArray.empty, 0) = (e74, e75) ∧ (x14 < (r91.length : Int) ∧ (∃ e78 : ByteArray, (∃ e79 : Int, (r91.getD (x14).toNat (ByteArray.empty, 0) = (e78, e79) ∧ ((e74 = e78 ∧ ((e75 = e79 ∧ (x14 < (x9.length : Int) ∧ (∃ e84 : Bool, (∃ e85 : List Int, (∃ e86 : List Int, (x9.getD (x14).toNat (false, [], []) = (e84, e85, e86) ∧ (∃ e88 : ByteArray, (∃ e89 : Int, (r91.getD (x14).toNat (ByteArray.empty, 0) = (e88, e89) ∧ (∃ c91_0 : Bool, (∃ c91_1 : List Int, (∃ c91_2 : List Int, (ref08_Num_R e89 1 c91_0 c91_1 c91_2 ∧ (∃ c93_0 : Bool, (∃ c93_1 : List Int, (∃ c93_2 : List Int, (ref08_Div_R c91_0 c91_1 c91_2 r11_0_0 r11_0_1 r11_0_2 c93_0 c93_1 c93_2 ∧ (∃ c95_0 : Bool, (∃ c95_1 : List Int, (∃ c95_2 : List Int, (ref08_Back_R c93_0 c93_1 c93_2 c95_0 c95_1 c95_2 ∧ (∃ c97 : Bool, (ref08_Same_R e84 e85 e86 c95_0 c95_1 c95_2 c97 ∧ ((c97 = true ∧ (law30_StepGroups_l3 x8 x9 (wi (x14 + 1)) r11_0_0 r11_0_1 r11_0_2 r91 z)) ∨ (¬ c97 = true ∧ (z = false)))))))))))))))))))))))))) ∨ (¬ e75 = e79 ∧ (z = false)))) ∨ (¬ e74 = e78 ∧ (z = false)))))))))))) ∨ (¬ x14 < (x8.length : Int) ∧ (∃ c100 : Bool, (law30_works_R c100 ∧ (z = c100)))))) : law30_StepGroups_l3 x8 x9 x14 r11_0_0 r11_0_1 r11_0_2 r91 z := by
 intro n91 ln_91 j jb vs
 refine W.adv 1 ?_
 refine W.adv 5 ?_
 refine W.opS (OpIs.ln (n := (x8.map E_api_Hop).length) (m := x8.length) (by kernel_rfl) (by rw [List.length_map])) ?_
 refine W.adv 3 ?_
 rcases H with ⟨h72, H⟩ | ⟨h72, H⟩
 ·refine W.cond true (w := (decide (x14 < (x8.length : Int)))) (by kernel_rfl) (decide_eq_true h72) ?_
  refine W.adv 8 ?_
  obtain ⟨h73, H⟩ := H
  obtain ⟨e74, e75, he76, H⟩ := H
  refine W.opS (OpIs.ixE (enc := E_api_Hop) (n := 2) (k' := .i64) (L := x8) (i := x14) (d0 := (ByteArray.empty, 0)) (x := (e74, e75)) (by kernel_rfl) h73 h72 he76) ?_
  refine W.adv 3 ?_
  obtain ⟨h77, H⟩ := H
  refine W.opS (OpIs.ixR (k' := .i64) (b := 91) (v := ((vs 91) + 1)) (sz := 2) (len := n91) (i := x14) (by kernel_rfl) h73 (by rw [ln_91]; exact h77)) ?_
  obtain ⟨e78, e79, he80, H⟩ := H
  refine W.opS (OpIs.ldE (enc := E_api_Hop) (b := 91) (v := ((vs 91) + 1)) (i := (x14).toNat) (off := 0) (w := ((vs 91) + 1)) (n := 2) (s := 2) (fz := false) (a := true) (L := r91) (d0 := (ByteArray.empty, 0)) (x := (e78, e79)) (r := (.agg [.str e78, .int .i64 e79])) (by kernel_rfl) rfl (by omega) he80 (by kernel_rfl)) ?_
  rcases H with ⟨h81, H⟩ | ⟨h81, H⟩
  ·rcases H with ⟨h82, H⟩ | ⟨h82, H⟩
   ·refine W.opS (OpIs.sq true (r := .bool false) (op := .neq) (t := 78) (xs := [.str e74, .int .i64 e75]) (ys := [.str e78, .int .i64 e79]) (by kernel_rfl) (by kernel_rfl) ((show eqV C.P 4 78 (.agg [.str e74, .int .i64 e75]) (.agg [.str e78, .int .i64 e79]) = (if (e74 == e78) = true then (if (e75 == e79) = true then some true else some false) else some false) from by kernel_rfl).trans (sq1 (beq_bt h81) (sq1 (beqT h82) rfl)))) ?_
    refine W.adv 6 ?_
    obtain ⟨h83, H⟩ := H
    obtain ⟨e84, e85, e86, he87, H⟩ := H
    refine W.opS (OpIs.ixE (enc := E_api_Rat) (n := 3) (k' := .i64) (L := x9) (i := x14) (d0 := (false, [], [])) (x := (e84, e85, e86)) (by kernel_rfl) h73 h83 he87) ?_
    refine W.adv 7 ?_
    refine W.opS (OpIs.ixR (k' := .i64) (b := 91) (v := ((vs 91) + 1)) (sz := 2) (len := n91) (i := x14) (by kernel_rfl) h73 (by rw [ln_91]; exact h77)) ?_
    refine W.adv 3 ?_
    obtain ⟨e88, e89, he90, H⟩ := H
    refine W.opS (OpIs.ldE (enc := E_api_Hop) (b := 91) (v := ((vs 91) + 1)) (i := (x14).toNat) (off := 1) (w := ((vs 91) + 1)) (n := 2) (s := 1) (fz := false) (a := false) (L := r91) (d0 := (ByteArray.empty, 0)) (x := (e88, e89)) (r := (.int .i64 e89)) (by kernel_rfl) rfl (by omega) he90 (by kernel_rfl)) ?_
    refine W.adv 1 ?_
    obtain ⟨c91_0, c91_1, c91_2, hc92, H⟩ := H
    refine W.callR (g := 22) (ds := [.int .i64 e89, .int .i64 1]) (es := [.int .i64 e89, .int .i64 1]) (r := (.agg [.bool c91_0, .ints .i64 c91_1, .ints .i64 c91_2])) (by kernel_rfl) (by kernel_rfl) (Ic.args hc92 (by kernel_rfl)) (by kernel_rfl) ?_
    refine W.adv 3 ?_
    obtain ⟨c93_0, c93_1, c93_2, hc94, H⟩ := H
    refine W.callR (g := 24) (ds := [(.agg [.bool c91_0, .ints .i64 c91_1, .ints .i64 c91_2]), (.agg [.bool r11_0_0, .ints .i64 r11_0_1, .ints .i64 r11_0_2])]) (es := [(.agg [.bool c91_0, .ints .i64 c91_1, .ints .i64 c91_2]), (.agg [.bool r11_0_0, .ints .i64 r11_0_1, .ints .i64 r11_0_2])]) (r := (.agg [.bool c93_0, .ints .i64 c93_1, .ints .i64 c93_2])) (by kernel_rfl) (by kernel_rfl) (Ic.args hc94 (by kernel_rfl)) (by kernel_rfl) ?_
    refine W.adv 1 ?_
    obtain ⟨c95_0, c95_1, c95_2, hc96, H⟩ := H
    refine W.callR (g := 14) (ds := [(.agg [.bool c93_0, .ints .i64 c93_1, .ints .i64 c93_2])]) (es := [(.agg [.bool c93_0, .ints .i64 c93_1, .ints .i64 c93_2])]) (r := (.agg [.bool c95_0, .ints .u64 c95_1, .ints .u64 c95_2])) (by kernel_rfl) (by kernel_rfl) (Ic.args hc96 (by kernel_rfl)) (by kernel_rfl) ?_
    refine W.adv 1 ?_
    obtain ⟨c97, hc98, H⟩ := H
    refine W.callR (g := 13) (ds := [(.agg [.bool e84, .ints .u64 e85, .ints .u64 e86]), (.agg [.bool c95_0, .ints .u64 c95_1, .ints .u64 c95_2])]) (es := [(.agg [.bool e84, .ints .u64 e85, .ints .u64 e86]), (.agg [.bool c95_0, .ints .u64 c95_1, .ints .u64 c95_2])]) (r := (.bool c97)) (by kernel_rfl) (by kernel_rfl) (Ic.args hc98 (by kernel_rfl)) (by kernel_rfl) ?_
    refine W.adv 5 ?_
    rcases H with ⟨h99, H⟩ | ⟨h99, H⟩
    ·refine W.cond false (w := (!c97)) (by kernel_rfl) (congrArg (fun b => !b) h99) ?_
     refine W.adv 9 ?_
     exact W.to_loop (P := law30_StepGroups_l3_s x8 x9 (wi (x14 + 1)) r11_0_0 r11_0_1 r11_0_2 r91 n91) (H _ ln_91) (by kernel_rfl)
    ·refine W.cond true (w := (!c97)) (by kernel_rfl) (congrArg (fun b => !b) (bfalse h99)) ?_
     refine W.adv 11 ?_
     exact W.fin (x := .ret) (by kernel_rfl) (LAns.of (d := (.bool false)) (by kernel_rfl) (by rw [H]))
   ·refine W.opS (OpIs.sq false (r := .bool true) (op := .neq) (t := 78) (xs := [.str e74, .int .i64 e75]) (ys := [.str e78, .int .i64 e79]) (by kernel_rfl) (by kernel_rfl) ((show eqV C.P 4 78 (.agg [.str e74, .int .i64 e75]) (.agg [.str e78, .int .i64 e79]) = (if (e74 == e78) = true then (if (e75 == e79) = true then some true else some false) else some false) from by kernel_rfl).trans (sq1 (beq_bt h81) (sq0 (beqF h82))))) ?_
    refine W.adv 31 ?_
    exact W.fin (x := .ret) (by kernel_rfl) (LAns.of (d := (.bool false)) (by kernel_rfl) (by rw [H]))
  ·refine W.opS (OpIs.sq false (r := .bool true) (op := .neq) (t := 78) (xs := [.str e74, .int .i64 e75]) (ys := [.str e78, .int .i64 e79]) (by kernel_rfl) (by kernel_rfl) ((show eqV C.P 4 78 (.agg [.str e74, .int .i64 e75]) (.agg [.str e78, .int .i64 e79]) = (if (e74 == e78) = true then (if (e75 == e79) = true then some true else some false) else some false) from by kernel_rfl).trans (sq0 (beq_bf h81)))) ?_
   refine W.adv 31 ?_
   exact W.fin (x := .ret) (by kernel_rfl) (LAns.of (d := (.bool false)) (by kernel_rfl) (by rw [H]))
 ·refine W.cond false (w := (decide (x14 < (x8.length : Int)))) (by kernel_rfl) (decide_eq_false h72) ?_
  refine W.adv 7 ?_
  obtain ⟨c100, hc101, H⟩ := H
  refine W.callR (g := 10) (ds := []) (es := []) (r := (.bool c100)) (by kernel_rfl) (by kernel_rfl) (Ic.args hc101 (by kernel_rfl)) (by kernel_rfl) ?_
  refine W.adv 4 ?_
  exact W.fin (x := .ret) (by kernel_rfl) (LAns.of (d := (.bool c100)) (by kernel_rfl) (by rw [H]))
theorem law30_StepGroups_go {a0_0 : ByteArray} {a0_1 : Int} {a0_2 : Int} {a0_3 : Bool} {a0_4 : List T71} {a1 : Int} {z : Bool} (H : (∃ c1_0 : ByteArray, (∃ c1_1 : Int, (∃ c1_2 : Int, (∃ c1_3 : Bool, (∃ c1_4 : List T71, (ref22_CleanRule_R a0_0 a0_1 a0_2 a0_3 a0_4 c1_0 c1_1 c1_2 c1_3 c1_4 ∧ (∃ c3 : List T_string, (ref24_Out_R c1_0 c1_1 c1_2 c1_3 c1_4 c3 ∧ (∃ c5 : Int, (ref30_Group_R c1_0 c1_1 c1_2 c1_3 c1_4 c3 a1 c5 ∧ (∃ c7t0 : List T_api_Hop, (∃ c7t1 : List T_api_Rat, (step_Shares_v0_R c1_0 c1_1 c1_2 c1_3 c1_4 c3 a1 c7t0 c7t1 ∧ (∃ c9 : Int, (step_Group_v0_R c1_0 c1_1 c1_2 c1_3 c1_4 c3 a1 c9 ∧ ((c9 = c5 ∧ (((c7t0.length : Int) = (c7t1.length : Int) ∧ ((c5 < 0 ∧ (((c7t0.length : Int) = 0 ∧ (∃ c15 : Bool, (law30_works_R c15 ∧ (z = c15)))) ∨ (¬ (c7t0.length : Int) = 0 ∧ (z = false)))) ∨ (¬ c5 < 0 ∧ (∃ c17_0 : Bool, (∃ c17_1 : List Int, (∃ c17_2 : List Int, (ref08_Num_R 0 1 c17_0 c17_1 c17_2 ∧ (law30_StepGroups_l0 c5 c7t0 c7t1 0 c1_0 c1_1 c1_2 c1_3 c1_4 c3 a1 c17_0 c17_1 c17_2 z)))))))) ∨ (¬ (c7t0.length : Int) = (c7t1.length : Int) ∧ (z = false)))) ∨ (¬ c9 = c5 ∧ (z = false))))))))))))))))))) : law30_StepGroups_R a0_0 a0_1 a0_2 a0_3 a0_4 a1 z := by
 refine W.lawIs (zs := [(.agg [.str a0_0, .int .u32 a0_1, .int .i64 a0_2, .bool a0_3, (.list 1 (a0_4.map E71))]), .int .u64 a1]) Tryz.func4 (by kernel_rfl) (by kernel_rfl) (by kernel_rfl) ?_
 refine W.adv 9 ?_
 obtain ⟨c1_0, c1_1, c1_2, c1_3, c1_4, hc2, H⟩ := H
 refine W.callR (g := 16) (ds := [(.agg [.str a0_0, .int .u32 a0_1, .int .i64 a0_2, .bool a0_3, (.list 1 (a0_4.map E71))])]) (es := [(.agg [.str a0_0, .int .u32 a0_1, .int .i64 a0_2, .bool a0_3, (.list 1 (a0_4.map E71))])]) (r := (.agg [.str c1_0, .int .u32 c1_1, .int .i64 c1_2, .bool c1_3, (.list 1 (c1_4.map E71))])) (by kernel_rfl) (by kernel_rfl) (Ic.args hc2 (by kernel_rfl)) (by kernel_rfl) ?_
 refine W.adv 6 ?_
 obtain ⟨c3, hc4, H⟩ := H
 refine W.callR (g := 17) (ds := [(.agg [.str c1_0, .int .u32 c1_1, .int .i64 c1_2, .bool c1_3, (.list 1 (c1_4.map E71))])]) (es := [(.agg [.str c1_0, .int .u32 c1_1, .int .i64 c1_2, .bool c1_3, (.list 1 (c1_4.map E71))])]) (r := (.list 1 (c3.map E_string))) (by kernel_rfl) (by kernel_rfl) (Ic.args hc4 (by kernel_rfl)) (by kernel_rfl) ?_
 refine W.adv 17 ?_
 obtain ⟨c5, hc6, H⟩ := H
 refine W.callR (g := 18) (ds := [(.agg [.str c1_0, .int .u32 c1_1, .int .i64 c1_2, .bool c1_3, (.list 1 (c1_4.map E71))]), (.list 1 (c3.map E_string)), .int .u64 a1]) (es := [(.agg [.str c1_0, .int .u32 c1_1, .int .i64 c1_2, .bool c1_3, (.list 1 (c1_4.map E71))]), (.list 1 (c3.map E_string)), .int .u64 a1]) (r := (.int .i64 c5)) (by kernel_rfl) (by kernel_rfl) (Ic.args hc6 (by kernel_rfl)) (by kernel_rfl) ?_
 refine W.adv 8 ?_
 obtain ⟨c7t0, c7t1, hc8, H⟩ := H
 refine W.callN (g := 19) (ds := [(.agg [.str c1_0, .int .u32 c1_1, .int .i64 c1_2, .bool c1_3, (.list 1 (c1_4.map E71))]), (.fn 20 [(.agg [(.list 1 (c3.map E_string)), .int .u64 a1])] [])]) (es := [(.agg [.str c1_0, .int .u32 c1_1, .int .i64 c1_2, .bool c1_3, (.list 1 (c1_4.map E71))]), (.fn 20 [(.agg [(.list 1 (c3.map E_string)), .int .u64 a1])] [])]) (r := (.tuple [(.list 2 (c7t0.map E_api_Hop)), (.list 3 (c7t1.map E_api_Rat))])) (by kernel_rfl) (by kernel_rfl) (by kernel_rfl) (Ic.args hc8 (by kernel_rfl)) ?_
 refine W.adv 13 ?_
 obtain ⟨c9, hc10, H⟩ := H
 refine W.callN (g := 21) (ds := [(.agg [.str c1_0, .int .u32 c1_1, .int .i64 c1_2, .bool c1_3, (.list 1 (c1_4.map E71))]), (.fn 20 [(.agg [(.list 1 (c3.map E_string)), .int .u64 a1])] [])]) (es := [(.agg [.str c1_0, .int .u32 c1_1, .int .i64 c1_2, .bool c1_3, (.list 1 (c1_4.map E71))]), (.fn 20 [(.agg [(.list 1 (c3.map E_string)), .int .u64 a1])] [])]) (r := (.int .i64 c9)) (by kernel_rfl) (by kernel_rfl) (by kernel_rfl) (Ic.args hc10 (by kernel_rfl)) ?_
 refine W.adv 3 ?_
 rcases H with ⟨h11, H⟩ | ⟨h11, H⟩
 ·refine W.guard true (w := ((!(decide (c9 = c5))) == false)) (by kernel_rfl) (congrArg (fun b => b == false) (congrArg (fun b => !b) (decide_eq_true h11))) ?_
  refine W.adv 1 ?_
  refine W.guard true (w := ((!(decide (c9 = c5))) == false)) (by kernel_rfl) (congrArg (fun b => b == false) (congrArg (fun b => !b) (decide_eq_true h11))) ?_
  refine W.opS (OpIs.ln (n := (c7t0.map E_api_Hop).length) (m := c7t0.length) (by kernel_rfl) (by rw [List.length_map])) ?_
  refine W.guard true (w := ((!(decide (c9 = c5))) == false)) (by kernel_rfl) (congrArg (fun b => b == false) (congrArg (fun b => !b) (decide_eq_true h11))) ?_
  refine W.adv 1 ?_
  refine W.guard true (w := ((!(decide (c9 = c5))) == false)) (by kernel_rfl) (congrArg (fun b => b == false) (congrArg (fun b => !b) (decide_eq_true h11))) ?_
  refine W.opS (OpIs.ln (n := (c7t1.map E_api_Rat).length) (m := c7t1.length) (by kernel_rfl) (by rw [List.length_map])) ?_
  refine W.guard true (w := ((!(decide (c9 = c5))) == false)) (by kernel_rfl) (congrArg (fun b => b == false) (congrArg (fun b => !b) (decide_eq_true h11))) ?_
  refine W.adv 1 ?_
  refine W.opS (OpIs.pk false (t := (!(decide (c9 = c5)))) (x := (.bool true)) (y := (.bool (!(decide ((c7t0.length : Int) = (c7t1.length : Int)))))) (by kernel_rfl) (congrArg (fun b => !b) (decide_eq_true h11))) ?_
  refine W.adv 2 ?_
  rcases H with ⟨h12, H⟩ | ⟨h12, H⟩
  ·refine W.cond false (w := (!(decide ((c7t0.length : Int) = (c7t1.length : Int))))) (by kernel_rfl) (congrArg (fun b => !b) (decide_eq_true h12)) ?_
   refine W.adv 9 ?_
   rcases H with ⟨h13, H⟩ | ⟨h13, H⟩
   ·refine W.cond true (w := (decide (c5 < 0))) (by kernel_rfl) (decide_eq_true h13) ?_
    refine W.adv 3 ?_
    refine W.opS (OpIs.ln (n := (c7t0.map E_api_Hop).length) (m := c7t0.length) (by kernel_rfl) (by rw [List.length_map])) ?_
    refine W.adv 2 ?_
    rcases H with ⟨h14, H⟩ | ⟨h14, H⟩
    ·refine W.guard true (w := ((decide ((c7t0.length : Int) = 0)) == true)) (by kernel_rfl) (congrArg (fun b => b == true) (decide_eq_true h14)) ?_
     obtain ⟨c15, hc16, H⟩ := H
     refine W.callR (g := 10) (ds := []) (es := []) (r := (.bool c15)) (by kernel_rfl) (by kernel_rfl) (Ic.args hc16 (by kernel_rfl)) (by kernel_rfl) ?_
     refine W.opS (OpIs.pk true (t := (decide ((c7t0.length : Int) = 0))) (x := (.bool c15)) (y := (.bool false)) (by kernel_rfl) (decide_eq_true h14)) ?_
     refine W.adv 5 ?_
     exact W.fin (x := .ret) (by kernel_rfl) (LAns.of (d := (.bool c15)) (by kernel_rfl) (by rw [H]))
    ·refine W.guard false (w := ((decide ((c7t0.length : Int) = 0)) == true)) (by kernel_rfl) (congrArg (fun b => b == true) (decide_eq_false h14)) ?_
     refine W.opS (OpIs.pk false (t := (decide ((c7t0.length : Int) = 0))) (x := (.tuple [])) (y := (.bool false)) (by kernel_rfl) (decide_eq_false h14)) ?_
     refine W.adv 5 ?_
     exact W.fin (x := .ret) (by kernel_rfl) (LAns.of (d := (.bool false)) (by kernel_rfl) (by rw [H]))
   ·refine W.cond false (w := (decide (c5 < 0))) (by kernel_rfl) (decide_eq_false h13) ?_
    refine W.adv 5 ?_
    obtain ⟨c17_0, c17_1, c17_2, hc18, H⟩ := H
    refine W.callR (g := 22) (ds := [.int .i64 0, .int .i64 1]) (es := [.int .i64 0, .int .i64 1]) (r := (.agg [.bool c17_0, .ints .i64 c17_1, .ints .i64 c17_2])) (by kernel_rfl) (by kernel_rfl) (Ic.args hc18 (by kernel_rfl)) (by kernel_rfl) ?_
    refine W.adv 12 ?_
    exact W.to_loop (P := law30_StepGroups_l0_s c5 c7t0 c7t1 0 c1_0 c1_1 c1_2 c1_3 c1_4 c3 a1 c17_0 c17_1 c17_2) (H ) (by kernel_rfl)
  ·refine W.cond true (w := (!(decide ((c7t0.length : Int) = (c7t1.length : Int))))) (by kernel_rfl) (congrArg (fun b => !b) (decide_eq_false h12)) ?_
   refine W.adv 7 ?_
   exact W.fin (x := .ret) (by kernel_rfl) (LAns.of (d := (.bool false)) (by kernel_rfl) (by rw [H]))
 ·refine W.guard false (w := ((!(decide (c9 = c5))) == false)) (by kernel_rfl) (congrArg (fun b => b == false) (congrArg (fun b => !b) (decide_eq_false h11))) ?_
  refine W.guard false (w := ((!(decide (c9 = c5))) == false)) (by kernel_rfl) (congrArg (fun b => b == false) (congrArg (fun b => !b) (decide_eq_false h11))) ?_
  refine W.guard false (w := ((!(decide (c9 = c5))) == false)) (by kernel_rfl) (congrArg (fun b => b == false) (congrArg (fun b => !b) (decide_eq_false h11))) ?_
  refine W.guard false (w := ((!(decide (c9 = c5))) == false)) (by kernel_rfl) (congrArg (fun b => b == false) (congrArg (fun b => !b) (decide_eq_false h11))) ?_
  refine W.guard false (w := ((!(decide (c9 = c5))) == false)) (by kernel_rfl) (congrArg (fun b => b == false) (congrArg (fun b => !b) (decide_eq_false h11))) ?_
  refine W.opS (OpIs.pk true (t := (!(decide (c9 = c5)))) (x := (.bool true)) (y := (.tuple [])) (by kernel_rfl) (congrArg (fun b => !b) (decide_eq_false h11))) ?_
  refine W.adv 10 ?_
  exact W.fin (x := .ret) (by kernel_rfl) (LAns.of (d := (.bool false)) (by kernel_rfl) (by rw [H]))
end Go.Proofs.YtjcdkemnflmfiaaGreatA
