/- Walks through the functions: what makes each relation true. -/
import Derived.Test.YtfijdkdpcjfiaaaGreatW0
set_option linter.unusedVariables false
set_option maxRecDepth 100000
namespace Go.Proofs.YtfijdkdpcjfiaaaGreatA
open Go Go.Proofs
noncomputable def ref22_CleanRule_l0_s (x4 : Int) (r1_0_0 : ByteArray) (r1_0_1 : Int) (r1_0_2 : Int) (r1_0_3 : Bool) (r1_0_4 : List T46) (r2_0_0 : ByteArray) (r2_0_1 : Int) (r2_0_2 : Int) (r2_0_3 : Bool) (r3_0_0 : ByteArray) (r3_0_1 : Int) (r3_0_2 : Int) (r3_0_3 : Bool) (j : Nat → D) (jb : Nat → Blk) (vs : Nat → Nat) : Cf := cfAt Tryz.f5 [1, 1, 0, 1, 0] ⟨[j 0, .pref 1 1 0 0, .pref 2 1 0 0, .pref 3 1 0 0, .int .i64 x4, j 5, j 6, j 7, j 8, j 9, j 10, j 11, j 12, j 13, j 14, j 15, j 16, j 17, j 18, j 19, j 20, j 21, j 22, j 23, j 24, j 25, j 26, j 27, j 28, j 29, j 30, j 31, j 32, j 33, j 34, j 35, j 36, j 37, j 38, j 39, j 40, j 41, j 42, j 43, j 44, j 45, j 46, j 47, j 48, j 49, j 50, j 51, j 52, j 53, j 54, j 55, j 56, j 57, j 58, j 59, j 60, j 61, j 62, j 63, j 64, j 65, j 66, j 67, j 68, j 69, j 70, j 71, j 72, j 73, j 74, j 75, j 76, j 77, j 78], [jb 0, ⟨1, false, .rows 5 [(.agg [.str r1_0_0, .int .u32 r1_0_1, .int .i64 r1_0_2, .bool r1_0_3, (.list 1 (r1_0_4.map E46))])]⟩, ⟨1, false, .rows 5 [(.agg [.str r2_0_0, .int .u32 r2_0_1, .int .i64 r2_0_2, .bool r2_0_3, .nilS])]⟩, ⟨1, false, .rows 5 [(.agg [.str r3_0_0, .int .u32 r3_0_1, .int .i64 r3_0_2, .bool r3_0_3, .nilS])]⟩, jb 4, jb 5, jb 6, jb 7, jb 8, jb 9, jb 10, jb 11, jb 12, jb 13, jb 14, jb 15, jb 16, jb 17, jb 18, jb 19, jb 20, jb 21, jb 22, jb 23, jb 24, jb 25, jb 26, jb 27, jb 28, jb 29, jb 30, jb 31, jb 32, jb 33, jb 34, jb 35, jb 36, jb 37, jb 38, jb 39, jb 40, jb 41, jb 42, jb 43, jb 44, jb 45, jb 46, jb 47, jb 48, jb 49, jb 50, jb 51, jb 52, jb 53, jb 54, jb 55, jb 56, jb 57, jb 58, jb 59, jb 60, jb 61, jb 62, jb 63, jb 64, jb 65, jb 66, jb 67, jb 68, jb 69, jb 70, jb 71, jb 72, jb 73, jb 74, jb 75, jb 76, jb 77, jb 78]⟩
def ref22_CleanRule_l0 (x4 : Int) (r1_0_0 : ByteArray) (r1_0_1 : Int) (r1_0_2 : Int) (r1_0_3 : Bool) (r1_0_4 : List T46) (r2_0_0 : ByteArray) (r2_0_1 : Int) (r2_0_2 : Int) (r2_0_3 : Bool) (r3_0_0 : ByteArray) (r3_0_1 : Int) (r3_0_2 : Int) (r3_0_3 : Bool) (z_0 : ByteArray) (z_1 : Int) (z_2 : Int) (z_3 : Bool) (z_4 : List T46) : Prop := ∀ j jb vs, W C F 5 0 (ref22_CleanRule_l0_s x4 r1_0_0 r1_0_1 r1_0_2 r1_0_3 r1_0_4 r2_0_0 r2_0_1 r2_0_2 r2_0_3 r3_0_0 r3_0_1 r3_0_2 r3_0_3  j jb vs) (Ans C Tryz.f5 (.agg [.str z_0, .int .u32 z_1, .int .i64 z_2, .bool z_3, (.list 1 (z_4.map E46))]))
noncomputable def ref22_CleanRule_l1_s (x4 : Int) (x6 : Int) (r1_0_0 : ByteArray) (r1_0_1 : Int) (r1_0_2 : Int) (r1_0_3 : Bool) (r1_0_4 : List T46) (r2_0_0 : ByteArray) (r2_0_1 : Int) (r2_0_2 : Int) (r2_0_3 : Bool) (r3_0_0 : ByteArray) (r3_0_1 : Int) (r3_0_2 : Int) (r3_0_3 : Bool) (j : Nat → D) (jb : Nat → Blk) (vs : Nat → Nat) : Cf := cfAt Tryz.f5 [1, 1, 0, 1, 0, 0, 1, 0, 0, 1, 0, 1, 0] ⟨[j 0, .pref 1 1 0 0, .pref 2 1 0 0, .pref 3 1 0 0, .int .i64 x4, .nilS, .int .i64 x6, j 7, j 8, j 9, j 10, j 11, j 12, j 13, j 14, j 15, j 16, j 17, j 18, j 19, j 20, j 21, j 22, j 23, j 24, j 25, j 26, j 27, j 28, j 29, j 30, j 31, j 32, j 33, j 34, j 35, j 36, j 37, j 38, j 39, j 40, j 41, j 42, j 43, j 44, j 45, j 46, j 47, j 48, j 49, j 50, j 51, j 52, j 53, j 54, j 55, j 56, j 57, j 58, j 59, j 60, j 61, j 62, j 63, j 64, j 65, j 66, j 67, j 68, j 69, j 70, j 71, j 72, j 73, j 74, j 75, j 76, j 77, j 78], [jb 0, ⟨1, false, .rows 5 [(.agg [.str r1_0_0, .int .u32 r1_0_1, .int .i64 r1_0_2, .bool r1_0_3, (.list 1 (r1_0_4.map E46))])]⟩, ⟨1, false, .rows 5 [(.agg [.str r2_0_0, .int .u32 r2_0_1, .int .i64 r2_0_2, .bool r2_0_3, .nilS])]⟩, ⟨1, false, .rows 5 [(.agg [.str r3_0_0, .int .u32 r3_0_1, .int .i64 r3_0_2, .bool r3_0_3, .nilS])]⟩, jb 4, jb 5, jb 6, jb 7, jb 8, jb 9, jb 10, jb 11, jb 12, jb 13, jb 14, jb 15, jb 16, jb 17, jb 18, jb 19, jb 20, jb 21, jb 22, jb 23, jb 24, jb 25, jb 26, jb 27, jb 28, jb 29, jb 30, jb 31, jb 32, jb 33, jb 34, jb 35, jb 36, jb 37, jb 38, jb 39, jb 40, jb 41, jb 42, jb 43, jb 44, jb 45, jb 46, jb 47, jb 48, jb 49, jb 50, jb 51, jb 52, jb 53, jb 54, jb 55, jb 56, jb 57, jb 58, jb 59, jb 60, jb 61, jb 62, jb 63, jb 64, jb 65, jb 66, jb 67, jb 68, jb 69, jb 70, jb 71, jb 72, jb 73, jb 74, jb 75, jb 76, jb 77, jb 78]⟩
def ref22_CleanRule_l1 (x4 : Int) (x6 : Int) (r1_0_0 : ByteArray) (r1_0_1 : Int) (r1_0_2 : Int) (r1_0_3 : Bool) (r1_0_4 : List T46) (r2_0_0 : ByteArray) (r2_0_1 : Int) (r2_0_2 : Int) (r2_0_3 : Bool) (r3_0_0 : ByteArray) (r3_0_1 : Int) (r3_0_2 : Int) (r3_0_3 : Bool) (z_0 : ByteArray) (z_1 : Int) (z_2 : Int) (z_3 : Bool) (z_4 : List T46) : Prop := ∀ j jb vs, W C F 5 0 (ref22_CleanRule_l1_s x4 x6 r1_0_0 r1_0_1 r1_0_2 r1_0_3 r1_0_4 r2_0_0 r2_0_1 r2_0_2 r2_0_3 r3_0_0 r3_0_1 r3_0_2 r3_0_3  j jb vs) (Ans C Tryz.f5 (.agg [.str z_0, .int .u32 z_1, .int .i64 z_2, .bool z_3, (.list 1 (z_4.map E46))]))
noncomputable def ref22_CleanRule_l2_s (x4 : Int) (x6 : Int) (r1_0_0 : ByteArray) (r1_0_1 : Int) (r1_0_2 : Int) (r1_0_3 : Bool) (r1_0_4 : List T46) (r2_0_0 : ByteArray) (r2_0_1 : Int) (r2_0_2 : Int) (r2_0_3 : Bool) (r3_0_0 : ByteArray) (r3_0_1 : Int) (r3_0_2 : Int) (r3_0_3 : Bool) (r71 : List T_api_Hop) (n71 : Nat) (j : Nat → D) (jb : Nat → Blk) (vs : Nat → Nat) : Cf := cfAt Tryz.f5 [1, 1, 0, 1, 0, 0, 1, 0, 0, 1, 0, 1, 0] ⟨[j 0, .pref 1 1 0 0, .pref 2 1 0 0, .pref 3 1 0 0, .int .i64 x4, (.sref 71 ((vs 71) + 1) 2 0 n71), .int .i64 x6, j 7, j 8, j 9, j 10, j 11, j 12, j 13, j 14, j 15, j 16, j 17, j 18, j 19, j 20, j 21, j 22, j 23, j 24, j 25, j 26, j 27, j 28, j 29, j 30, j 31, j 32, j 33, j 34, j 35, j 36, j 37, j 38, j 39, j 40, j 41, j 42, j 43, j 44, j 45, j 46, j 47, j 48, j 49, j 50, j 51, j 52, j 53, j 54, j 55, j 56, j 57, j 58, j 59, j 60, j 61, j 62, j 63, j 64, j 65, j 66, j 67, j 68, j 69, j 70, j 71, j 72, j 73, j 74, j 75, j 76, j 77, j 78], [jb 0, ⟨1, false, .rows 5 [(.agg [.str r1_0_0, .int .u32 r1_0_1, .int .i64 r1_0_2, .bool r1_0_3, (.list 1 (r1_0_4.map E46))])]⟩, ⟨1, false, .rows 5 [(.agg [.str r2_0_0, .int .u32 r2_0_1, .int .i64 r2_0_2, .bool r2_0_3, .nilS])]⟩, ⟨1, false, .rows 5 [(.agg [.str r3_0_0, .int .u32 r3_0_1, .int .i64 r3_0_2, .bool r3_0_3, .nilS])]⟩, jb 4, jb 5, jb 6, jb 7, jb 8, jb 9, jb 10, jb 11, jb 12, jb 13, jb 14, jb 15, jb 16, jb 17, jb 18, jb 19, jb 20, jb 21, jb 22, jb 23, jb 24, jb 25, jb 26, jb 27, jb 28, jb 29, jb 30, jb 31, jb 32, jb 33, jb 34, jb 35, jb 36, jb 37, jb 38, jb 39, jb 40, jb 41, jb 42, jb 43, jb 44, jb 45, jb 46, jb 47, jb 48, jb 49, jb 50, jb 51, jb 52, jb 53, jb 54, jb 55, jb 56, jb 57, jb 58, jb 59, jb 60, jb 61, jb 62, jb 63, jb 64, jb 65, jb 66, jb 67, jb 68, jb 69, jb 70, ⟨((vs 71) + 1), false, .rows 2 (r71.map E_api_Hop)⟩, jb 72, jb 73, jb 74, jb 75, jb 76, jb 77, jb 78]⟩
def ref22_CleanRule_l2 (x4 : Int) (x6 : Int) (r1_0_0 : ByteArray) (r1_0_1 : Int) (r1_0_2 : Int) (r1_0_3 : Bool) (r1_0_4 : List T46) (r2_0_0 : ByteArray) (r2_0_1 : Int) (r2_0_2 : Int) (r2_0_3 : Bool) (r3_0_0 : ByteArray) (r3_0_1 : Int) (r3_0_2 : Int) (r3_0_3 : Bool) (r71 : List T_api_Hop) (z_0 : ByteArray) (z_1 : Int) (z_2 : Int) (z_3 : Bool) (z_4 : List T46) : Prop := ∀ n71, n71 = r71.length → ∀ j jb vs, W C F 5 0 (ref22_CleanRule_l2_s x4 x6 r1_0_0 r1_0_1 r1_0_2 r1_0_3 r1_0_4 r2_0_0 r2_0_1 r2_0_2 r2_0_3 r3_0_0 r3_0_1 r3_0_2 r3_0_3 r71 n71 j jb vs) (Ans C Tryz.f5 (.agg [.str z_0, .int .u32 z_1, .int .i64 z_2, .bool z_3, (.list 1 (z_4.map E46))]))
noncomputable def ref22_CleanRule_l3_s (x4 : Int) (r1_0_0 : ByteArray) (r1_0_1 : Int) (r1_0_2 : Int) (r1_0_3 : Bool) (r1_0_4 : List T46) (r2_0_0 : ByteArray) (r2_0_1 : Int) (r2_0_2 : Int) (r2_0_3 : Bool) (r3_0_0 : ByteArray) (r3_0_1 : Int) (r3_0_2 : Int) (r3_0_3 : Bool) (r76 : List T46) (n76 : Nat) (j : Nat → D) (jb : Nat → Blk) (vs : Nat → Nat) : Cf := cfAt Tryz.f5 [1, 1, 0, 1, 0] ⟨[j 0, .pref 1 1 0 0, .pref 2 1 0 0, .pref 3 1 0 0, .int .i64 x4, j 5, j 6, j 7, j 8, j 9, j 10, j 11, j 12, j 13, j 14, j 15, j 16, j 17, j 18, j 19, j 20, j 21, j 22, j 23, j 24, j 25, j 26, j 27, j 28, j 29, j 30, j 31, j 32, j 33, j 34, j 35, j 36, j 37, j 38, j 39, j 40, j 41, j 42, j 43, j 44, j 45, j 46, j 47, j 48, j 49, j 50, j 51, j 52, j 53, j 54, j 55, j 56, j 57, j 58, j 59, j 60, j 61, j 62, j 63, j 64, j 65, j 66, j 67, j 68, j 69, j 70, j 71, j 72, j 73, j 74, j 75, j 76, j 77, j 78], [jb 0, ⟨1, false, .rows 5 [(.agg [.str r1_0_0, .int .u32 r1_0_1, .int .i64 r1_0_2, .bool r1_0_3, (.list 1 (r1_0_4.map E46))])]⟩, ⟨1, false, .rows 5 [(.agg [.str r2_0_0, .int .u32 r2_0_1, .int .i64 r2_0_2, .bool r2_0_3, .nilS])]⟩, ⟨1, false, .rows 5 [(.agg [.str r3_0_0, .int .u32 r3_0_1, .int .i64 r3_0_2, .bool r3_0_3, (.sref 76 ((vs 76) + 1) 1 0 n76)])]⟩, jb 4, jb 5, jb 6, jb 7, jb 8, jb 9, jb 10, jb 11, jb 12, jb 13, jb 14, jb 15, jb 16, jb 17, jb 18, jb 19, jb 20, jb 21, jb 22, jb 23, jb 24, jb 25, jb 26, jb 27, jb 28, jb 29, jb 30, jb 31, jb 32, jb 33, jb 34, jb 35, jb 36, jb 37, jb 38, jb 39, jb 40, jb 41, jb 42, jb 43, jb 44, jb 45, jb 46, jb 47, jb 48, jb 49, jb 50, jb 51, jb 52, jb 53, jb 54, jb 55, jb 56, jb 57, jb 58, jb 59, jb 60, jb 61, jb 62, jb 63, jb 64, jb 65, jb 66, jb 67, jb 68, jb 69, jb 70, jb 71, jb 72, jb 73, jb 74, jb 75, ⟨((vs 76) + 1), false, .rows 1 (r76.map E46)⟩, jb 77, jb 78]⟩
def ref22_CleanRule_l3 (x4 : Int) (r1_0_0 : ByteArray) (r1_0_1 : Int) (r1_0_2 : Int) (r1_0_3 : Bool) (r1_0_4 : List T46) (r2_0_0 : ByteArray) (r2_0_1 : Int) (r2_0_2 : Int) (r2_0_3 : Bool) (r3_0_0 : ByteArray) (r3_0_1 : Int) (r3_0_2 : Int) (r3_0_3 : Bool) (r76 : List T46) (z_0 : ByteArray) (z_1 : Int) (z_2 : Int) (z_3 : Bool) (z_4 : List T46) : Prop := ∀ n76, n76 = r76.length → ∀ j jb vs, W C F 5 0 (ref22_CleanRule_l3_s x4 r1_0_0 r1_0_1 r1_0_2 r1_0_3 r1_0_4 r2_0_0 r2_0_1 r2_0_2 r2_0_3 r3_0_0 r3_0_1 r3_0_2 r3_0_3 r76 n76 j jb vs) (Ans C Tryz.f5 (.agg [.str z_0, .int .u32 z_1, .int .i64 z_2, .bool z_3, (.list 1 (z_4.map E46))]))
noncomputable def ref22_CleanRule_l4_s (x4 : Int) (x6 : Int) (r1_0_0 : ByteArray) (r1_0_1 : Int) (r1_0_2 : Int) (r1_0_3 : Bool) (r1_0_4 : List T46) (r2_0_0 : ByteArray) (r2_0_1 : Int) (r2_0_2 : Int) (r2_0_3 : Bool) (r3_0_0 : ByteArray) (r3_0_1 : Int) (r3_0_2 : Int) (r3_0_3 : Bool) (r76 : List T46) (n76 : Nat) (j : Nat → D) (jb : Nat → Blk) (vs : Nat → Nat) : Cf := cfAt Tryz.f5 [1, 1, 0, 1, 0, 0, 1, 0, 0, 1, 0, 1, 0] ⟨[j 0, .pref 1 1 0 0, .pref 2 1 0 0, .pref 3 1 0 0, .int .i64 x4, .nilS, .int .i64 x6, j 7, j 8, j 9, j 10, j 11, j 12, j 13, j 14, j 15, j 16, j 17, j 18, j 19, j 20, j 21, j 22, j 23, j 24, j 25, j 26, j 27, j 28, j 29, j 30, j 31, j 32, j 33, j 34, j 35, j 36, j 37, j 38, j 39, j 40, j 41, j 42, j 43, j 44, j 45, j 46, j 47, j 48, j 49, j 50, j 51, j 52, j 53, j 54, j 55, j 56, j 57, j 58, j 59, j 60, j 61, j 62, j 63, j 64, j 65, j 66, j 67, j 68, j 69, j 70, j 71, j 72, j 73, j 74, j 75, j 76, j 77, j 78], [jb 0, ⟨1, false, .rows 5 [(.agg [.str r1_0_0, .int .u32 r1_0_1, .int .i64 r1_0_2, .bool r1_0_3, (.list 1 (r1_0_4.map E46))])]⟩, ⟨1, false, .rows 5 [(.agg [.str r2_0_0, .int .u32 r2_0_1, .int .i64 r2_0_2, .bool r2_0_3, .nilS])]⟩, ⟨1, false, .rows 5 [(.agg [.str r3_0_0, .int .u32 r3_0_1, .int .i64 r3_0_2, .bool r3_0_3, (.sref 76 ((vs 76) + 1) 1 0 n76)])]⟩, jb 4, jb 5, jb 6, jb 7, jb 8, jb 9, jb 10, jb 11, jb 12, jb 13, jb 14, jb 15, jb 16, jb 17, jb 18, jb 19, jb 20, jb 21, jb 22, jb 23, jb 24, jb 25, jb 26, jb 27, jb 28, jb 29, jb 30, jb 31, jb 32, jb 33, jb 34, jb 35, jb 36, jb 37, jb 38, jb 39, jb 40, jb 41, jb 42, jb 43, jb 44, jb 45, jb 46, jb 47, jb 48, jb 49, jb 50, jb 51, jb 52, jb 53, jb 54, jb 55, jb 56, jb 57, jb 58, jb 59, jb 60, jb 61, jb 62, jb 63, jb 64, jb 65, jb 66, jb 67, jb 68, jb 69, jb 70, jb 71, jb 72, jb 73, jb 74, jb 75, ⟨((vs 76) + 1), false, .rows 1 (r76.map E46)⟩, jb 77, jb 78]⟩
def ref22_CleanRule_l4 (x4 : Int) (x6 : Int) (r1_0_0 : ByteArray) (r1_0_1 : Int) (r1_0_2 : Int) (r1_0_3 : Bool) (r1_0_4 : List T46) (r2_0_0 : ByteArray) (r2_0_1 : Int) (r2_0_2 : Int) (r2_0_3 : Bool) (r3_0_0 : ByteArray) (r3_0_1 : Int) (r3_0_2 : Int) (r3_0_3 : Bool) (r76 : List T46) (z_0 : ByteArray) (z_1 : Int) (z_2 : Int) (z_3 : Bool) (z_4 : List T46) : Prop := ∀ n76, n76 = r76.length → ∀ j jb vs, W C F 5 0 (ref22_CleanRule_l4_s x4 x6 r1_0_0 r1_0_1 r1_0_2 r1_0_3 r1_0_4 r2_0_0 r2_0_1 r2_0_2 r2_0_3 r3_0_0 r3_0_1 r3_0_2 r3_0_3 r76 n76 j jb vs) (Ans C Tryz.f5 (.agg [.str z_0, .int .u32 z_1, .int .i64 z_2, .bool z_3, (.list 1 (z_4.map E46))]))
noncomputable def ref22_CleanRule_l5_s (x4 : Int) (x6 : Int) (r1_0_0 : ByteArray) (r1_0_1 : Int) (r1_0_2 : Int) (r1_0_3 : Bool) (r1_0_4 : List T46) (r2_0_0 : ByteArray) (r2_0_1 : Int) (r2_0_2 : Int) (r2_0_3 : Bool) (r3_0_0 : ByteArray) (r3_0_1 : Int) (r3_0_2 : Int) (r3_0_3 : Bool) (r71 : List T_api_Hop) (r76 : List T46) (n71 : Nat) (n76 : Nat) (j : Nat → D) (jb : Nat → Blk) (vs : Nat → Nat) : Cf := cfAt Tryz.f5 [1, 1, 0, 1, 0, 0, 1, 0, 0, 1, 0, 1, 0] ⟨[j 0, .pref 1 1 0 0, .pref 2 1 0 0, .pref 3 1 0 0, .int .i64 x4, (.sref 71 ((vs 71) + 1) 2 0 n71), .int .i64 x6, j 7, j 8, j 9, j 10, j 11, j 12, j 13, j 14, j 15, j 16, j 17, j 18, j 19, j 20, j 21, j 22, j 23, j 24, j 25, j 26, j 27, j 28, j 29, j 30, j 31, j 32, j 33, j 34, j 35, j 36, j 37, j 38, j 39, j 40, j 41, j 42, j 43, j 44, j 45, j 46, j 47, j 48, j 49, j 50, j 51, j 52, j 53, j 54, j 55, j 56, j 57, j 58, j 59, j 60, j 61, j 62, j 63, j 64, j 65, j 66, j 67, j 68, j 69, j 70, j 71, j 72, j 73, j 74, j 75, j 76, j 77, j 78], [jb 0, ⟨1, false, .rows 5 [(.agg [.str r1_0_0, .int .u32 r1_0_1, .int .i64 r1_0_2, .bool r1_0_3, (.list 1 (r1_0_4.map E46))])]⟩, ⟨1, false, .rows 5 [(.agg [.str r2_0_0, .int .u32 r2_0_1, .int .i64 r2_0_2, .bool r2_0_3, .nilS])]⟩, ⟨1, false, .rows 5 [(.agg [.str r3_0_0, .int .u32 r3_0_1, .int .i64 r3_0_2, .bool r3_0_3, (.sref 76 ((vs 76) + 1) 1 0 n76)])]⟩, jb 4, jb 5, jb 6, jb 7, jb 8, jb 9, jb 10, jb 11, jb 12, jb 13, jb 14, jb 15, jb 16, jb 17, jb 18, jb 19, jb 20, jb 21, jb 22, jb 23, jb 24, jb 25, jb 26, jb 27, jb 28, jb 29, jb 30, jb 31, jb 32, jb 33, jb 34, jb 35, jb 36, jb 37, jb 38, jb 39, jb 40, jb 41, jb 42, jb 43, jb 44, jb 45, jb 46, jb 47, jb 48, jb 49, jb 50, jb 51, jb 52, jb 53, jb 54, jb 55, jb 56, jb 57, jb 58, jb 59, jb 60, jb 61, jb 62, jb 63, jb 64, jb 65, jb 66, jb 67, jb 68, jb 69, jb 70, ⟨((vs 71) + 1), false, .rows 2 (r71.map E_api_Hop)⟩, jb 72, jb 73, jb 74, jb 75, ⟨((vs 76) + 1), false, .rows 1 (r76.map E46)⟩, jb 77, jb 78]⟩
def ref22_CleanRule_l5 (x4 : Int) (x6 : Int) (r1_0_0 : ByteArray) (r1_0_1 : Int) (r1_0_2 : Int) (r1_0_3 : Bool) (r1_0_4 : List T46) (r2_0_0 : ByteArray) (r2_0_1 : Int) (r2_0_2 : Int) (r2_0_3 : Bool) (r3_0_0 : ByteArray) (r3_0_1 : Int) (r3_0_2 : Int) (r3_0_3 : Bool) (r71 : List T_api_Hop) (r76 : List T46) (z_0 : ByteArray) (z_1 : Int) (z_2 : Int) (z_3 : Bool) (z_4 : List T46) : Prop := ∀ n71, n71 = r71.length → ∀ n76, n76 = r76.length → ∀ j jb vs, W C F 5 0 (ref22_CleanRule_l5_s x4 x6 r1_0_0 r1_0_1 r1_0_2 r1_0_3 r1_0_4 r2_0_0 r2_0_1 r2_0_2 r2_0_3 r3_0_0 r3_0_1 r3_0_2 r3_0_3 r71 r76 n71 n76 j jb vs) (Ans C Tryz.f5 (.agg [.str z_0, .int .u32 z_1, .int .i64 z_2, .bool z_3, (.list 1 (z_4.map E46))]))
theorem ref22_CleanRule_l0_go {x4 : Int} {r1_0_0 : ByteArray} {r1_0_1 : Int} {r1_0_2 : Int} {r1_0_3 : Bool} {r1_0_4 : List T46} {r2_0_0 : ByteArray} {r2_0_1 : Int} {r2_0_2 : Int} {r2_0_3 : Bool} {r3_0_0 : ByteArray} {r3_0_1 : Int} {r3_0_2 : Int} {r3_0_3 : Bool} {z_0 : ByteArray} {z_1 : Int} {z_2 : Int} {z_3 : Bool} {z_4 : List T46} (H : ((x4 < (r1_0_4.length : Int) ∧ ((x4 < 4 ∧ (ref22_CleanRule_l1 x4 0 r1_0_0 r1_0_1 r1_0_2 r1_0_3 r1_0_4 r2_0_0 r2_0_1 r2_0_2 r2_0_3 r3_0_0 r3_0_1 r3_0_2 r3_0_3 z_0 z_1 z_2 z_3 z_4)) ∨ (¬ x4 < 4 ∧ (z_0 = r3_0_0 ∧ z_1 = r3_0_1 ∧ z_2 = r3_0_2 ∧ z_3 = r3_0_3 ∧ z_4 = ([] : List T46))))) ∨ (¬ x4 < (r1_0_4.length : Int) ∧ (z_0 = r3_0_0 ∧ z_1 = r3_0_1 ∧ z_2 = r3_0_2 ∧ z_3 = r3_0_3 ∧ z_4 = ([] : List T46))))) : ref22_CleanRule_l0 x4 r1_0_0 r1_0_1 r1_0_2 r1_0_3 r1_0_4 r2_0_0 r2_0_1 r2_0_2 r2_0_3 r3_0_0 r3_0_1 r3_0_2 r3_0_3 z_0 z_1 z_2 z_3 z_4 := by
 intro j jb vs
 refine W.adv 1 ?_
 refine W.adv 6 ?_
 refine W.opS (OpIs.ln (n := (r1_0_4.map E46).length) (m := r1_0_4.length) (by kernel_rfl) (by rw [List.length_map])) ?_
 refine W.adv 2 ?_
 rcases H with ⟨h3, H⟩ | ⟨h3, H⟩
 ·refine W.guard true (w := ((decide (x4 < (r1_0_4.length : Int))) == true)) (by kernel_rfl) (congrArg (fun b => b == true) (decide_eq_true h3)) ?_
  refine W.adv 1 ?_
  refine W.guard true (w := ((decide (x4 < (r1_0_4.length : Int))) == true)) (by kernel_rfl) (congrArg (fun b => b == true) (decide_eq_true h3)) ?_
  refine W.adv 1 ?_
  refine W.opS (OpIs.pk true (t := (decide (x4 < (r1_0_4.length : Int)))) (x := (.bool (decide (x4 < 4)))) (y := (.bool false)) (by kernel_rfl) (decide_eq_true h3)) ?_
  refine W.adv 2 ?_
  rcases H with ⟨h4, H⟩ | ⟨h4, H⟩
  ·refine W.cond true (w := (decide (x4 < 4))) (by kernel_rfl) (decide_eq_true h4) ?_
   refine W.adv 17 ?_
   exact W.to_loop (P := ref22_CleanRule_l1_s x4 0 r1_0_0 r1_0_1 r1_0_2 r1_0_3 r1_0_4 r2_0_0 r2_0_1 r2_0_2 r2_0_3 r3_0_0 r3_0_1 r3_0_2 r3_0_3) (H ) (by kernel_rfl)
  ·refine W.cond false (w := (decide (x4 < 4))) (by kernel_rfl) (decide_eq_false h4) ?_
   refine W.adv 12 ?_
   exact W.fin (x := .ret) (by kernel_rfl) (Ans.of (d := (.agg [.str r3_0_0, .int .u32 r3_0_1, .int .i64 r3_0_2, .bool r3_0_3, .nilS])) (d' := (.agg [.str r3_0_0, .int .u32 r3_0_1, .int .i64 r3_0_2, .bool r3_0_3, .nilS])) (e' := (.agg [.str r3_0_0, .int .u32 r3_0_1, .int .i64 r3_0_2, .bool r3_0_3, (.list 1 (([] : List T46).map E46))])) (by kernel_rfl) (by kernel_rfl) (by kernel_rfl) (by rw [H.1, H.2.1, H.2.2.1, H.2.2.2.1, H.2.2.2.2]))
 ·refine W.guard false (w := ((decide (x4 < (r1_0_4.length : Int))) == true)) (by kernel_rfl) (congrArg (fun b => b == true) (decide_eq_false h3)) ?_
  refine W.guard false (w := ((decide (x4 < (r1_0_4.length : Int))) == true)) (by kernel_rfl) (congrArg (fun b => b == true) (decide_eq_false h3)) ?_
  refine W.opS (OpIs.pk false (t := (decide (x4 < (r1_0_4.length : Int)))) (x := (.tuple [])) (y := (.bool false)) (by kernel_rfl) (decide_eq_false h3)) ?_
  refine W.adv 15 ?_
  exact W.fin (x := .ret) (by kernel_rfl) (Ans.of (d := (.agg [.str r3_0_0, .int .u32 r3_0_1, .int .i64 r3_0_2, .bool r3_0_3, .nilS])) (d' := (.agg [.str r3_0_0, .int .u32 r3_0_1, .int .i64 r3_0_2, .bool r3_0_3, .nilS])) (e' := (.agg [.str r3_0_0, .int .u32 r3_0_1, .int .i64 r3_0_2, .bool r3_0_3, (.list 1 (([] : List T46).map E46))])) (by kernel_rfl) (by kernel_rfl) (by kernel_rfl) (by rw [H.1, H.2.1, H.2.2.1, H.2.2.2.1, H.2.2.2.2]))
theorem ref22_CleanRule_l1_go {x4 : Int} {x6 : Int} {r1_0_0 : ByteArray} {r1_0_1 : Int} {r1_0_2 : Int} {r1_0_3 : Bool} {r1_0_4 : List T46} {r2_0_0 : ByteArray} {r2_0_1 : Int} {r2_0_2 : Int} {r2_0_3 : Bool} {r3_0_0 : ByteArray} {r3_0_1 : Int} {r3_0_2 : Int} {r3_0_3 : Bool} {z_0 : ByteArray} {z_1 : Int} {z_2 : Int} {z_3 : Bool} {z_4 : List T46} (H : (0 ≤ x4 ∧ (x4 < (r1_0_4.length : Int) ∧ ((x6 < ((r1_0_4.getD (x4).toNat []).length : Int) ∧ ((x6 < 5 ∧ (0 ≤ x6 ∧ (∃ e10 : ByteArray, (∃ e11 : Int, ((r1_0_4.getD (x4).toNat []).getD (x6).toNat (ByteArray.empty, 0) = (e10, e11) ∧ ((e11 < (-1000000) ∧ (∃ e14 : ByteArray, (∃ e15 : Int, ((r1_0_4.getD (x4).toNat []).getD (x6).toNat (ByteArray.empty, 0) = (e14, e15) ∧ (∃ c17 : ByteArray, (ref22_short_R e14 c17 ∧ ((1 + 192) * (24 + 1) ≤ 70368744177664 ∧ (∃ y19 : List T_api_Hop, y19 = [(c17, 2)] ∧ (ref22_CleanRule_l2 x4 (wi (x6 + 1)) r1_0_0 r1_0_1 r1_0_2 r1_0_3 r1_0_4 r2_0_0 r2_0_1 r2_0_2 r2_0_3 r3_0_0 r3_0_1 r3_0_2 r3_0_3 y19 z_0 z_1 z_2 z_3 z_4))))))))) ∨ (¬ e11 < (-1000000) ∧ ((2147483648 < e11 ∧ (∃ e24 : ByteArray, (∃ e25 : Int, ((r1_0_4.getD (x4).toNat []).getD (x6).toNat (ByteArray.empty, 0) = (e24, e25) ∧ (∃ c27 : ByteArray, (ref22_short_R e24 c27 ∧ ((1 + 192) * (24 + 1) ≤ 70368744177664 ∧ (∃ y29 : List T_api_Hop, y29 = [(c27, 2)] ∧ (ref22_CleanRule_l2 x4 (wi (x6 + 1)) r1_0_0 r1_0_1 r1_0_2 r1_0_3 r1_0_4 r2_0_0 r2_0_1 r2_0_2 r2_0_3 r3_0_0 r3_0_1 r3_0_2 r3_0_3 y29 z_0 z_1 z_2 z_3 z_4))))))))) ∨ (¬ 2147483648 < e11 ∧ (∃ e33 : ByteArray, (∃ e34 : Int, ((r1_0_4.getD (x4).toNat []).getD (x6).toNat (ByteArray.empty, 0) = (e33, e34) ∧ (∃ c36 : ByteArray, (ref22_short_R e33 c36 ∧ ((1 + 192) * (24 + 1) ≤ 70368744177664 ∧ (∃ y38 : List T_api_Hop, y38 = [(c36, e11)] ∧ (ref22_CleanRule_l2 x4 (wi (x6 + 1)) r1_0_0 r1_0_1 r1_0_2 r1_0_3 r1_0_4 r2_0_0 r2_0_1 r2_0_2 r2_0_3 r3_0_0 r3_0_1 r3_0_2 r3_0_3 y38 z_0 z_1 z_2 z_3 z_4))))))))))))))))) ∨ (¬ x6 < 5 ∧ ((1 + 192) * (24 + 1) ≤ 70368744177664 ∧ (∃ y42 : List T46, y42 = [[]] ∧ (ref22_CleanRule_l3 (wi (x4 + 1)) r1_0_0 r1_0_1 r1_0_2 r1_0_3 r1_0_4 r2_0_0 r2_0_1 r2_0_2 r2_0_3 r3_0_0 r3_0_1 r3_0_2 r3_0_3 y42 z_0 z_1 z_2 z_3 z_4)))))) ∨ (¬ x6 < ((r1_0_4.getD (x4).toNat []).length : Int) ∧ ((1 + 192) * (24 + 1) ≤ 70368744177664 ∧ (∃ y46 : List T46, y46 = [[]] ∧ (ref22_CleanRule_l3 (wi (x4 + 1)) r1_0_0 r1_0_1 r1_0_2 r1_0_3 r1_0_4 r2_0_0 r2_0_1 r2_0_2 r2_0_3 r3_0_0 r3_0_1 r3_0_2 r3_0_3 y46 z_0 z_1 z_2 z_3 z_4)))))))) : ref22_CleanRule_l1 x4 x6 r1_0_0 r1_0_1 r1_0_2 r1_0_3 r1_0_4 r2_0_0 r2_0_1 r2_0_2 r2_0_3 r3_0_0 r3_0_1 r3_0_2 r3_0_3 z_0 z_1 z_2 z_3 z_4 := by
 intro j jb vs
 refine W.adv 1 ?_
 refine W.adv 7 ?_
 obtain ⟨h5, h6, H⟩ := H
 refine W.opS (OpIs.ixE (enc := E46) (n := 1) (k' := .i64) (L := r1_0_4) (i := x4) (d0 := []) (x := (r1_0_4.getD (x4).toNat [])) (by kernel_rfl) h5 h6 rfl) ?_
 refine W.adv 1 ?_
 refine W.opS (OpIs.ln (n := ((r1_0_4.getD (x4).toNat []).map E_api_Hop).length) (m := (r1_0_4.getD (x4).toNat []).length) (by kernel_rfl) (by rw [List.length_map])) ?_
 refine W.adv 2 ?_
 rcases H with ⟨h7, H⟩ | ⟨h7, H⟩
 ·refine W.guard true (w := ((decide (x6 < ((r1_0_4.getD (x4).toNat []).length : Int))) == true)) (by kernel_rfl) (congrArg (fun b => b == true) (decide_eq_true h7)) ?_
  refine W.adv 1 ?_
  refine W.guard true (w := ((decide (x6 < ((r1_0_4.getD (x4).toNat []).length : Int))) == true)) (by kernel_rfl) (congrArg (fun b => b == true) (decide_eq_true h7)) ?_
  refine W.adv 1 ?_
  refine W.opS (OpIs.pk true (t := (decide (x6 < ((r1_0_4.getD (x4).toNat []).length : Int)))) (x := (.bool (decide (x6 < 5)))) (y := (.bool false)) (by kernel_rfl) (decide_eq_true h7)) ?_
  refine W.adv 2 ?_
  rcases H with ⟨h8, H⟩ | ⟨h8, H⟩
  ·refine W.cond true (w := (decide (x6 < 5))) (by kernel_rfl) (decide_eq_true h8) ?_
   refine W.adv 9 ?_
   refine W.opS (OpIs.ixE (enc := E46) (n := 1) (k' := .i64) (L := r1_0_4) (i := x4) (d0 := []) (x := (r1_0_4.getD (x4).toNat [])) (by kernel_rfl) h5 h6 rfl) ?_
   refine W.adv 2 ?_
   obtain ⟨h9, H⟩ := H
   obtain ⟨e10, e11, he12, H⟩ := H
   refine W.opS (OpIs.ixE (enc := E_api_Hop) (n := 2) (k' := .i64) (L := (r1_0_4.getD (x4).toNat [])) (i := x6) (d0 := (ByteArray.empty, 0)) (x := (e10, e11)) (by kernel_rfl) h9 h7 he12) ?_
   refine W.adv 11 ?_
   rcases H with ⟨h13, H⟩ | ⟨h13, H⟩
   ·refine W.guard false (w := ((decide (e11 < (-1000000))) == false)) (by kernel_rfl) (congrArg (fun b => b == false) (decide_eq_true h13)) ?_
    refine W.guard false (w := ((decide (e11 < (-1000000))) == false)) (by kernel_rfl) (congrArg (fun b => b == false) (decide_eq_true h13)) ?_
    refine W.opS (OpIs.pk true (t := (decide (e11 < (-1000000)))) (x := (.bool true)) (y := (.tuple [])) (by kernel_rfl) (decide_eq_true h13)) ?_
    refine W.adv 12 ?_
    refine W.opS (OpIs.ixE (enc := E46) (n := 1) (k' := .i64) (L := r1_0_4) (i := x4) (d0 := []) (x := (r1_0_4.getD (x4).toNat [])) (by kernel_rfl) h5 h6 rfl) ?_
    refine W.adv 2 ?_
    obtain ⟨e14, e15, he16, H⟩ := H
    refine W.opS (OpIs.ixE (enc := E_api_Hop) (n := 2) (k' := .i64) (L := (r1_0_4.getD (x4).toNat [])) (i := x6) (d0 := (ByteArray.empty, 0)) (x := (e14, e15)) (by kernel_rfl) h9 h7 he16) ?_
    refine W.adv 2 ?_
    obtain ⟨c17, hc18, H⟩ := H
    refine W.callR (g := 14) (ds := [.str e14]) (es := [.str e14]) (r := (.str c17)) (by kernel_rfl) (by kernel_rfl) (Ic.args hc18 (by kernel_rfl)) (by kernel_rfl) ?_
    refine W.adv 3 ?_
    obtain ⟨h22, H⟩ := H
    obtain ⟨y19, hy20, H⟩ := H
    have ln21 : 1 = y19.length := by rw [hy20] <;> rfl
    refine W.opH (OpIs.apENil (enc := E_api_Hop) (y := (.lit (.list 2 [(.agg [.str c17, .int .i64 2])]))) (B := none) (n := 24) (d := 71) (v := (jb 71).ver) (m := 2) (ys := [(c17, 2)]) (by kernel_rfl) (by kernel_rfl) hy20 h22) ?_
    refine W.adv 10 ?_
    exact W.to_loop (P := ref22_CleanRule_l2_s x4 (wi (x6 + 1)) r1_0_0 r1_0_1 r1_0_2 r1_0_3 r1_0_4 r2_0_0 r2_0_1 r2_0_2 r2_0_3 r3_0_0 r3_0_1 r3_0_2 r3_0_3 y19 1) (H _ ln21) (by kernel_rfl)
   ·refine W.guard true (w := ((decide (e11 < (-1000000))) == false)) (by kernel_rfl) (congrArg (fun b => b == false) (decide_eq_false h13)) ?_
    refine W.adv 1 ?_
    refine W.guard true (w := ((decide (e11 < (-1000000))) == false)) (by kernel_rfl) (congrArg (fun b => b == false) (decide_eq_false h13)) ?_
    refine W.adv 1 ?_
    refine W.opS (OpIs.pk false (t := (decide (e11 < (-1000000)))) (x := (.bool true)) (y := (.bool (decide (2147483648 < e11)))) (by kernel_rfl) (decide_eq_false h13)) ?_
    refine W.adv 2 ?_
    rcases H with ⟨h23, H⟩ | ⟨h23, H⟩
    ·refine W.cond true (w := (decide (2147483648 < e11))) (by kernel_rfl) (decide_eq_true h23) ?_
     refine W.adv 9 ?_
     refine W.opS (OpIs.ixE (enc := E46) (n := 1) (k' := .i64) (L := r1_0_4) (i := x4) (d0 := []) (x := (r1_0_4.getD (x4).toNat [])) (by kernel_rfl) h5 h6 rfl) ?_
     refine W.adv 2 ?_
     obtain ⟨e24, e25, he26, H⟩ := H
     refine W.opS (OpIs.ixE (enc := E_api_Hop) (n := 2) (k' := .i64) (L := (r1_0_4.getD (x4).toNat [])) (i := x6) (d0 := (ByteArray.empty, 0)) (x := (e24, e25)) (by kernel_rfl) h9 h7 he26) ?_
     refine W.adv 2 ?_
     obtain ⟨c27, hc28, H⟩ := H
     refine W.callR (g := 14) (ds := [.str e24]) (es := [.str e24]) (r := (.str c27)) (by kernel_rfl) (by kernel_rfl) (Ic.args hc28 (by kernel_rfl)) (by kernel_rfl) ?_
     refine W.adv 3 ?_
     obtain ⟨h32, H⟩ := H
     obtain ⟨y29, hy30, H⟩ := H
     have ln31 : 1 = y29.length := by rw [hy30] <;> rfl
     refine W.opH (OpIs.apENil (enc := E_api_Hop) (y := (.lit (.list 2 [(.agg [.str c27, .int .i64 2])]))) (B := none) (n := 24) (d := 71) (v := (jb 71).ver) (m := 2) (ys := [(c27, 2)]) (by kernel_rfl) (by kernel_rfl) hy30 h32) ?_
     refine W.adv 10 ?_
     exact W.to_loop (P := ref22_CleanRule_l2_s x4 (wi (x6 + 1)) r1_0_0 r1_0_1 r1_0_2 r1_0_3 r1_0_4 r2_0_0 r2_0_1 r2_0_2 r2_0_3 r3_0_0 r3_0_1 r3_0_2 r3_0_3 y29 1) (H _ ln31) (by kernel_rfl)
    ·refine W.cond false (w := (decide (2147483648 < e11))) (by kernel_rfl) (decide_eq_false h23) ?_
     refine W.adv 7 ?_
     refine W.opS (OpIs.ixE (enc := E46) (n := 1) (k' := .i64) (L := r1_0_4) (i := x4) (d0 := []) (x := (r1_0_4.getD (x4).toNat [])) (by kernel_rfl) h5 h6 rfl) ?_
     refine W.adv 2 ?_
     obtain ⟨e33, e34, he35, H⟩ := H
     refine W.opS (OpIs.ixE (enc := E_api_Hop) (n := 2) (k' := .i64) (L := (r1_0_4.getD (x4).toNat [])) (i := x6) (d0 := (ByteArray.empty, 0)) (x := (e33, e34)) (by kernel_rfl) h9 h7 he35) ?_
     refine W.adv 2 ?_
     obtain ⟨c36, hc37, H⟩ := H
     refine W.callR (g := 14) (ds := [.str e33]) (es := [.str e33]) (r := (.str c36)) (by kernel_rfl) (by kernel_rfl) (Ic.args hc37 (by kernel_rfl)) (by kernel_rfl) ?_
     refine W.adv 3 ?_
     obtain ⟨h41, H⟩ := H
     obtain ⟨y38, hy39, H⟩ := H
     have ln40 : 1 = y38.length := by rw [hy39] <;> rfl
     refine W.opH (OpIs.apENil (enc := E_api_Hop) (y := (.lit (.list 2 [(.agg [.str c36, .int .i64 e11])]))) (B := none) (n := 24) (d := 71) (v := (jb 71).ver) (m := 2) (ys := [(c36, e11)]) (by kernel_rfl) (by kernel_rfl) hy39 h41) ?_
     refine W.adv 10 ?_
     exact W.to_loop (P := ref22_CleanRule_l2_s x4 (wi (x6 + 1)) r1_0_0 r1_0_1 r1_0_2 r1_0_3 r1_0_4 r2_0_0 r2_0_1 r2_0_2 r2_0_3 r3_0_0 r3_0_1 r3_0_2 r3_0_3 y38 1) (H _ ln40) (by kernel_rfl)
  ·refine W.cond false (w := (decide (x6 < 5))) (by kernel_rfl) (decide_eq_false h8) ?_
   refine W.adv 10 ?_
   obtain ⟨h45, H⟩ := H
   obtain ⟨y42, hy43, H⟩ := H
   have ln44 : 1 = y42.length := by rw [hy43] <;> rfl
   refine W.opH (OpIs.apENil (enc := E46) (y := (.lit (.list 1 [.list 2 []]))) (B := none) (n := 24) (d := 76) (v := (jb 76).ver) (m := 1) (ys := [[]]) (by kernel_rfl) (by kernel_rfl) hy43 h45) ?_
   refine W.adv 11 ?_
   exact W.to_loop (P := ref22_CleanRule_l3_s (wi (x4 + 1)) r1_0_0 r1_0_1 r1_0_2 r1_0_3 r1_0_4 r2_0_0 r2_0_1 r2_0_2 r2_0_3 r3_0_0 r3_0_1 r3_0_2 r3_0_3 y42 1) (H _ ln44) (by kernel_rfl)
 ·refine W.guard false (w := ((decide (x6 < ((r1_0_4.getD (x4).toNat []).length : Int))) == true)) (by kernel_rfl) (congrArg (fun b => b == true) (decide_eq_false h7)) ?_
  refine W.guard false (w := ((decide (x6 < ((r1_0_4.getD (x4).toNat []).length : Int))) == true)) (by kernel_rfl) (congrArg (fun b => b == true) (decide_eq_false h7)) ?_
  refine W.opS (OpIs.pk false (t := (decide (x6 < ((r1_0_4.getD (x4).toNat []).length : Int)))) (x := (.tuple [])) (y := (.bool false)) (by kernel_rfl) (decide_eq_false h7)) ?_
  refine W.adv 13 ?_
  obtain ⟨h49, H⟩ := H
  obtain ⟨y46, hy47, H⟩ := H
  have ln48 : 1 = y46.length := by rw [hy47] <;> rfl
  refine W.opH (OpIs.apENil (enc := E46) (y := (.lit (.list 1 [.list 2 []]))) (B := none) (n := 24) (d := 76) (v := (jb 76).ver) (m := 1) (ys := [[]]) (by kernel_rfl) (by kernel_rfl) hy47 h49) ?_
  refine W.adv 11 ?_
  exact W.to_loop (P := ref22_CleanRule_l3_s (wi (x4 + 1)) r1_0_0 r1_0_1 r1_0_2 r1_0_3 r1_0_4 r2_0_0 r2_0_1 r2_0_2 r2_0_3 r3_0_0 r3_0_1 r3_0_2 r3_0_3 y46 1) (H _ ln48) (by kernel_rfl)
theorem ref22_CleanRule_l2_go {x4 : Int} {x6 : Int} {r1_0_0 : ByteArray} {r1_0_1 : Int} {r1_0_2 : Int} {r1_0_3 : Bool} {r1_0_4 : List T46} {r2_0_0 : ByteArray} {r2_0_1 : Int} {r2_0_2 : Int} {r2_0_3 : Bool} {r3_0_0 : ByteArray} {r3_0_1 : Int} {r3_0_2 : Int} {r3_0_3 : Bool} {r71 : List T_api_Hop} {z_0 : ByteArray} {z_1 : Int} {z_2 : Int} {z_3 : Bool} {z_4 : List T46} (H : (0 ≤ x4 ∧ (x4 < (r1_0_4.length : Int) ∧ ((x6 < ((r1_0_4.getD (x4).toNat []).length : Int) ∧ ((x6 < 5 ∧ (0 ≤ x6 ∧ (∃ e55 : ByteArray, (∃ e56 : Int, ((r1_0_4.getD (x4).toNat []).getD (x6).toNat (ByteArray.empty, 0) = (e55, e56) ∧ ((e56 < (-1000000) ∧ (∃ e59 : ByteArray, (∃ e60 : Int, ((r1_0_4.getD (x4).toNat []).getD (x6).toNat (ByteArray.empty, 0) = (e59, e60) ∧ (∃ c62 : ByteArray, (ref22_short_R e59 c62 ∧ ((r71.length + 1 + 192) * (24 + 1) ≤ 70368744177664 ∧ (∃ y64 : List T_api_Hop, y64 = r71 ++ [(c62, 2)] ∧ (ref22_CleanRule_l2 x4 (wi (x6 + 1)) r1_0_0 r1_0_1 r1_0_2 r1_0_3 r1_0_4 r2_0_0 r2_0_1 r2_0_2 r2_0_3 r3_0_0 r3_0_1 r3_0_2 r3_0_3 y64 z_0 z_1 z_2 z_3 z_4))))))))) ∨ (¬ e56 < (-1000000) ∧ ((2147483648 < e56 ∧ (∃ e69 : ByteArray, (∃ e70 : Int, ((r1_0_4.getD (x4).toNat []).getD (x6).toNat (ByteArray.empty, 0) = (e69, e70) ∧ (∃ c72 : ByteArray, (ref22_short_R e69 c72 ∧ ((r71.length + 1 + 192) * (24 + 1) ≤ 70368744177664 ∧ (∃ y74 : List T_api_Hop, y74 = r71 ++ [(c72, 2)] ∧ (ref22_CleanRule_l2 x4 (wi (x6 + 1)) r1_0_0 r1_0_1 r1_0_2 r1_0_3 r1_0_4 r2_0_0 r2_0_1 r2_0_2 r2_0_3 r3_0_0 r3_0_1 r3_0_2 r3_0_3 y74 z_0 z_1 z_2 z_3 z_4))))))))) ∨ (¬ 2147483648 < e56 ∧ (∃ e78 : ByteArray, (∃ e79 : Int, ((r1_0_4.getD (x4).toNat []).getD (x6).toNat (ByteArray.empty, 0) = (e78, e79) ∧ (∃ c81 : ByteArray, (ref22_short_R e78 c81 ∧ ((r71.length + 1 + 192) * (24 + 1) ≤ 70368744177664 ∧ (∃ y83 : List T_api_Hop, y83 = r71 ++ [(c81, e56)] ∧ (ref22_CleanRule_l2 x4 (wi (x6 + 1)) r1_0_0 r1_0_1 r1_0_2 r1_0_3 r1_0_4 r2_0_0 r2_0_1 r2_0_2 r2_0_3 r3_0_0 r3_0_1 r3_0_2 r3_0_3 y83 z_0 z_1 z_2 z_3 z_4))))))))))))))))) ∨ (¬ x6 < 5 ∧ ((1 + 192) * (24 + 1) ≤ 70368744177664 ∧ (∃ y87 : List T46, y87 = [r71] ∧ (ref22_CleanRule_l3 (wi (x4 + 1)) r1_0_0 r1_0_1 r1_0_2 r1_0_3 r1_0_4 r2_0_0 r2_0_1 r2_0_2 r2_0_3 r3_0_0 r3_0_1 r3_0_2 r3_0_3 y87 z_0 z_1 z_2 z_3 z_4)))))) ∨ (¬ x6 < ((r1_0_4.getD (x4).toNat []).length : Int) ∧ ((1 + 192) * (24 + 1) ≤ 70368744177664 ∧ (∃ y91 : List T46, y91 = [r71] ∧ (ref22_CleanRule_l3 (wi (x4 + 1)) r1_0_0 r1_0_1 r1_0_2 r1_0_3 r1_0_4 r2_0_0 r2_0_1 r2_0_2 r2_0_3 r3_0_0 r3_0_1 r3_0_2 r3_0_3 y91 z_0 z_1 z_2 z_3 z_4)))))))) : ref22_CleanRule_l2 x4 x6 r1_0_0 r1_0_1 r1_0_2 r1_0_3 r1_0_4 r2_0_0 r2_0_1 r2_0_2 r2_0_3 r3_0_0 r3_0_1 r3_0_2 r3_0_3 r71 z_0 z_1 z_2 z_3 z_4 := by
 intro n71 ln_71 j jb vs
 refine W.adv 1 ?_
 refine W.adv 7 ?_
 obtain ⟨h50, h51, H⟩ := H
 refine W.opS (OpIs.ixE (enc := E46) (n := 1) (k' := .i64) (L := r1_0_4) (i := x4) (d0 := []) (x := (r1_0_4.getD (x4).toNat [])) (by kernel_rfl) h50 h51 rfl) ?_
 refine W.adv 1 ?_
 refine W.opS (OpIs.ln (n := ((r1_0_4.getD (x4).toNat []).map E_api_Hop).length) (m := (r1_0_4.getD (x4).toNat []).length) (by kernel_rfl) (by rw [List.length_map])) ?_
 refine W.adv 2 ?_
 rcases H with ⟨h52, H⟩ | ⟨h52, H⟩
 ·refine W.guard true (w := ((decide (x6 < ((r1_0_4.getD (x4).toNat []).length : Int))) == true)) (by kernel_rfl) (congrArg (fun b => b == true) (decide_eq_true h52)) ?_
  refine W.adv 1 ?_
  refine W.guard true (w := ((decide (x6 < ((r1_0_4.getD (x4).toNat []).length : Int))) == true)) (by kernel_rfl) (congrArg (fun b => b == true) (decide_eq_true h52)) ?_
  refine W.adv 1 ?_
  refine W.opS (OpIs.pk true (t := (decide (x6 < ((r1_0_4.getD (x4).toNat []).length : Int)))) (x := (.bool (decide (x6 < 5)))) (y := (.bool false)) (by kernel_rfl) (decide_eq_true h52)) ?_
  refine W.adv 2 ?_
  rcases H with ⟨h53, H⟩ | ⟨h53, H⟩
  ·refine W.cond true (w := (decide (x6 < 5))) (by kernel_rfl) (decide_eq_true h53) ?_
   refine W.adv 9 ?_
   refine W.opS (OpIs.ixE (enc := E46) (n := 1) (k' := .i64) (L := r1_0_4) (i := x4) (d0 := []) (x := (r1_0_4.getD (x4).toNat [])) (by kernel_rfl) h50 h51 rfl) ?_
   refine W.adv 2 ?_
   obtain ⟨h54, H⟩ := H
   obtain ⟨e55, e56, he57, H⟩ := H
   refine W.opS (OpIs.ixE (enc := E_api_Hop) (n := 2) (k' := .i64) (L := (r1_0_4.getD (x4).toNat [])) (i := x6) (d0 := (ByteArray.empty, 0)) (x := (e55, e56)) (by kernel_rfl) h54 h52 he57) ?_
   refine W.adv 11 ?_
   rcases H with ⟨h58, H⟩ | ⟨h58, H⟩
   ·refine W.guard false (w := ((decide (e56 < (-1000000))) == false)) (by kernel_rfl) (congrArg (fun b => b == false) (decide_eq_true h58)) ?_
    refine W.guard false (w := ((decide (e56 < (-1000000))) == false)) (by kernel_rfl) (congrArg (fun b => b == false) (decide_eq_true h58)) ?_
    refine W.opS (OpIs.pk true (t := (decide (e56 < (-1000000)))) (x := (.bool true)) (y := (.tuple [])) (by kernel_rfl) (decide_eq_true h58)) ?_
    refine W.adv 12 ?_
    refine W.opS (OpIs.ixE (enc := E46) (n := 1) (k' := .i64) (L := r1_0_4) (i := x4) (d0 := []) (x := (r1_0_4.getD (x4).toNat [])) (by kernel_rfl) h50 h51 rfl) ?_
    refine W.adv 2 ?_
    obtain ⟨e59, e60, he61, H⟩ := H
    refine W.opS (OpIs.ixE (enc := E_api_Hop) (n := 2) (k' := .i64) (L := (r1_0_4.getD (x4).toNat [])) (i := x6) (d0 := (ByteArray.empty, 0)) (x := (e59, e60)) (by kernel_rfl) h54 h52 he61) ?_
    refine W.adv 2 ?_
    obtain ⟨c62, hc63, H⟩ := H
    refine W.callR (g := 14) (ds := [.str e59]) (es := [.str e59]) (r := (.str c62)) (by kernel_rfl) (by kernel_rfl) (Ic.args hc63 (by kernel_rfl)) (by kernel_rfl) ?_
    refine W.adv 3 ?_
    obtain ⟨h67, H⟩ := H
    obtain ⟨y64, hy65, H⟩ := H
    have ln66 : (r71.length + 1) = y64.length := by rw [hy65, List.length_append] <;> rfl
    refine W.opK (OpIs.apERow (enc := E_api_Hop) (y := (.lit (.list 2 [(.agg [.str c62, .int .i64 2])]))) (n := 24) (d := 71) (dv := ((vs 71) + 1)) (b := 71) (v := ((vs 71) + 1)) (w := ((vs 71) + 1)) (len := n71) (m := 2) (xs := r71) (ys := [(c62, 2)]) (by kernel_rfl) (by kernel_rfl) hy65 rfl ln_71 h67) ?_
    refine W.adv 10 ?_
    exact W.to_loop (P := ref22_CleanRule_l2_s x4 (wi (x6 + 1)) r1_0_0 r1_0_1 r1_0_2 r1_0_3 r1_0_4 r2_0_0 r2_0_1 r2_0_2 r2_0_3 r3_0_0 r3_0_1 r3_0_2 r3_0_3 y64 (r71.length + 1)) (H _ ln66) (by kernel_rfl)
   ·refine W.guard true (w := ((decide (e56 < (-1000000))) == false)) (by kernel_rfl) (congrArg (fun b => b == false) (decide_eq_false h58)) ?_
    refine W.adv 1 ?_
    refine W.guard true (w := ((decide (e56 < (-1000000))) == false)) (by kernel_rfl) (congrArg (fun b => b == false) (decide_eq_false h58)) ?_
    refine W.adv 1 ?_
    refine W.opS (OpIs.pk false (t := (decide (e56 < (-1000000)))) (x := (.bool true)) (y := (.bool (decide (2147483648 < e56)))) (by kernel_rfl) (decide_eq_false h58)) ?_
    refine W.adv 2 ?_
    rcases H with ⟨h68, H⟩ | ⟨h68, H⟩
    ·refine W.cond true (w := (decide (2147483648 < e56))) (by kernel_rfl) (decide_eq_true h68) ?_
     refine W.adv 9 ?_
     refine W.opS (OpIs.ixE (enc := E46) (n := 1) (k' := .i64) (L := r1_0_4) (i := x4) (d0 := []) (x := (r1_0_4.getD (x4).toNat [])) (by kernel_rfl) h50 h51 rfl) ?_
     refine W.adv 2 ?_
     obtain ⟨e69, e70, he71, H⟩ := H
     refine W.opS (OpIs.ixE (enc := E_api_Hop) (n := 2) (k' := .i64) (L := (r1_0_4.getD (x4).toNat [])) (i := x6) (d0 := (ByteArray.empty, 0)) (x := (e69, e70)) (by kernel_rfl) h54 h52 he71) ?_
     refine W.adv 2 ?_
     obtain ⟨c72, hc73, H⟩ := H
     refine W.callR (g := 14) (ds := [.str e69]) (es := [.str e69]) (r := (.str c72)) (by kernel_rfl) (by kernel_rfl) (Ic.args hc73 (by kernel_rfl)) (by kernel_rfl) ?_
     refine W.adv 3 ?_
     obtain ⟨h77, H⟩ := H
     obtain ⟨y74, hy75, H⟩ := H
     have ln76 : (r71.length + 1) = y74.length := by rw [hy75, List.length_append] <;> rfl
     refine W.opK (OpIs.apERow (enc := E_api_Hop) (y := (.lit (.list 2 [(.agg [.str c72, .int .i64 2])]))) (n := 24) (d := 71) (dv := ((vs 71) + 1)) (b := 71) (v := ((vs 71) + 1)) (w := ((vs 71) + 1)) (len := n71) (m := 2) (xs := r71) (ys := [(c72, 2)]) (by kernel_rfl) (by kernel_rfl) hy75 rfl ln_71 h77) ?_
     refine W.adv 10 ?_
     exact W.to_loop (P := ref22_CleanRule_l2_s x4 (wi (x6 + 1)) r1_0_0 r1_0_1 r1_0_2 r1_0_3 r1_0_4 r2_0_0 r2_0_1 r2_0_2 r2_0_3 r3_0_0 r3_0_1 r3_0_2 r3_0_3 y74 (r71.length + 1)) (H _ ln76) (by kernel_rfl)
    ·refine W.cond false (w := (decide (2147483648 < e56))) (by kernel_rfl) (decide_eq_false h68) ?_
     refine W.adv 7 ?_
     refine W.opS (OpIs.ixE (enc := E46) (n := 1) (k' := .i64) (L := r1_0_4) (i := x4) (d0 := []) (x := (r1_0_4.getD (x4).toNat [])) (by kernel_rfl) h50 h51 rfl) ?_
     refine W.adv 2 ?_
     obtain ⟨e78, e79, he80, H⟩ := H
     refine W.opS (OpIs.ixE (enc := E_api_Hop) (n := 2) (k' := .i64) (L := (r1_0_4.getD (x4).toNat [])) (i := x6) (d0 := (ByteArray.empty, 0)) (x := (e78, e79)) (by kernel_rfl) h54 h52 he80) ?_
     refine W.adv 2 ?_
     obtain ⟨c81, hc82, H⟩ := H
     refine W.callR (g := 14) (ds := [.str e78]) (es := [.str e78]) (r := (.str c81)) (by kernel_rfl) (by kernel_rfl) (Ic.args hc82 (by kernel_rfl)) (by kernel_rfl) ?_
     refine W.adv 3 ?_
     obtain ⟨h86, H⟩ := H
     obtain ⟨y83, hy84, H⟩ := H
     have ln85 : (r71.length + 1) = y83.length := by rw [hy84, List.length_append] <;> rfl
     refine W.opK (OpIs.apERow (enc := E_api_Hop) (y := (.lit (.list 2 [(.agg [.str c81, .int .i64 e56])]))) (n := 24) (d := 71) (dv := ((vs 71) + 1)) (b := 71) (v := ((vs 71) + 1)) (w := ((vs 71) + 1)) (len := n71) (m := 2) (xs := r71) (ys := [(c81, e56)]) (by kernel_rfl) (by kernel_rfl) hy84 rfl ln_71 h86) ?_
     refine W.adv 10 ?_
     exact W.to_loop (P := ref22_CleanRule_l2_s x4 (wi (x6 + 1)) r1_0_0 r1_0_1 r1_0_2 r1_0_3 r1_0_4 r2_0_0 r2_0_1 r2_0_2 r2_0_3 r3_0_0 r3_0_1 r3_0_2 r3_0_3 y83 (r71.length + 1)) (H _ ln85) (by kernel_rfl)
  ·refine W.cond false (w := (decide (x6 < 5))) (by kernel_rfl) (decide_eq_false h53) ?_
   refine W.adv 9 ?_
   refine W.opF (OpIs.bs (t := 26) (len := 1) (is := [0]) (vs := [(.sref 71 ((vs 71) + 1) 2 0 n71)]) (es := [(.list 2 (r71.map E_api_Hop))]) (d := (.lit (.list 1 [(.list 2 (r71.map E_api_Hop))]))) (by kernel_rfl) (rf_cons (rf_fullE (enc := E_api_Hop) E_api_Hop_t (b := 71) (v := ((vs 71) + 1)) (w := ((vs 71) + 1)) (fz := false) (xs := r71) (by kernel_rfl) rfl ln_71) rf_nil) (by kernel_rfl) rfl) ?_
   obtain ⟨h90, H⟩ := H
   obtain ⟨y87, hy88, H⟩ := H
   have ln89 : 1 = y87.length := by rw [hy88] <;> rfl
   refine W.opH (OpIs.apENil (enc := E46) (y := (.lit (.list 1 [(.list 2 (r71.map E_api_Hop))]))) (B := none) (n := 24) (d := 76) (v := (jb 76).ver) (m := 1) (ys := [r71]) (by kernel_rfl) (by kernel_rfl) hy88 h90) ?_
   refine W.adv 11 ?_
   exact W.to_loop (P := ref22_CleanRule_l3_s (wi (x4 + 1)) r1_0_0 r1_0_1 r1_0_2 r1_0_3 r1_0_4 r2_0_0 r2_0_1 r2_0_2 r2_0_3 r3_0_0 r3_0_1 r3_0_2 r3_0_3 y87 1) (H _ ln89) (by kernel_rfl)
 ·refine W.guard false (w := ((decide (x6 < ((r1_0_4.getD (x4).toNat []).length : Int))) == true)) (by kernel_rfl) (congrArg (fun b => b == true) (decide_eq_false h52)) ?_
  refine W.guard false (w := ((decide (x6 < ((r1_0_4.getD (x4).toNat []).length : Int))) == true)) (by kernel_rfl) (congrArg (fun b => b == true) (decide_eq_false h52)) ?_
  refine W.opS (OpIs.pk false (t := (decide (x6 < ((r1_0_4.getD (x4).toNat []).length : Int)))) (x := (.tuple [])) (y := (.bool false)) (by kernel_rfl) (decide_eq_false h52)) ?_
  refine W.adv 12 ?_
  refine W.opF (OpIs.bs (t := 26) (len := 1) (is := [0]) (vs := [(.sref 71 ((vs 71) + 1) 2 0 n71)]) (es := [(.list 2 (r71.map E_api_Hop))]) (d := (.lit (.list 1 [(.list 2 (r71.map E_api_Hop))]))) (by kernel_rfl) (rf_cons (rf_fullE (enc := E_api_Hop) E_api_Hop_t (b := 71) (v := ((vs 71) + 1)) (w := ((vs 71) + 1)) (fz := false) (xs := r71) (by kernel_rfl) rfl ln_71) rf_nil) (by kernel_rfl) rfl) ?_
  obtain ⟨h94, H⟩ := H
  obtain ⟨y91, hy92, H⟩ := H
  have ln93 : 1 = y91.length := by rw [hy92] <;> rfl
  refine W.opH (OpIs.apENil (enc := E46) (y := (.lit (.list 1 [(.list 2 (r71.map E_api_Hop))]))) (B := none) (n := 24) (d := 76) (v := (jb 76).ver) (m := 1) (ys := [r71]) (by kernel_rfl) (by kernel_rfl) hy92 h94) ?_
  refine W.adv 11 ?_
  exact W.to_loop (P := ref22_CleanRule_l3_s (wi (x4 + 1)) r1_0_0 r1_0_1 r1_0_2 r1_0_3 r1_0_4 r2_0_0 r2_0_1 r2_0_2 r2_0_3 r3_0_0 r3_0_1 r3_0_2 r3_0_3 y91 1) (H _ ln93) (by kernel_rfl)
theorem ref22_CleanRule_l3_go {x4 : Int} {r1_0_0 : ByteArray} {r1_0_1 : Int} {r1_0_2 : Int} {r1_0_3 : Bool} {r1_0_4 : List T46} {r2_0_0 : ByteArray} {r2_0_1 : Int} {r2_0_2 : Int} {r2_0_3 : Bool} {r3_0_0 : ByteArray} {r3_0_1 : Int} {r3_0_2 : Int} {r3_0_3 : Bool} {r76 : List T46} {z_0 : ByteArray} {z_1 : Int} {z_2 : Int} {z_3 : Bool} {z_4 : List T46} (H : ((x4 < (r1_0_4.length : Int) ∧ ((x4 < 4 ∧ (ref22_CleanRule_l4 x4 0 r1_0_0 r1_0_1 r1_0_2 r1_0_3 r1_0_4 r2_0_0 r2_0_1 r2_0_2 r2_0_3 r3_0_0 r3_0_1 r3_0_2 r3_0_3 r76 z_0 z_1 z_2 z_3 z_4)) ∨ (¬ x4 < 4 ∧ (z_0 = r3_0_0 ∧ z_1 = r3_0_1 ∧ z_2 = r3_0_2 ∧ z_3 = r3_0_3 ∧ z_4 = r76)))) ∨ (¬ x4 < (r1_0_4.length : Int) ∧ (z_0 = r3_0_0 ∧ z_1 = r3_0_1 ∧ z_2 = r3_0_2 ∧ z_3 = r3_0_3 ∧ z_4 = r76)))) : ref22_CleanRule_l3 x4 r1_0_0 r1_0_1 r1_0_2 r1_0_3 r1_0_4 r2_0_0 r2_0_1 r2_0_2 r2_0_3 r3_0_0 r3_0_1 r3_0_2 r3_0_3 r76 z_0 z_1 z_2 z_3 z_4 := by
 intro n76 ln_76 j jb vs
 refine W.adv 1 ?_
 refine W.adv 6 ?_
 refine W.opS (OpIs.ln (n := (r1_0_4.map E46).length) (m := r1_0_4.length) (by kernel_rfl) (by rw [List.length_map])) ?_
 refine W.adv 2 ?_
 rcases H with ⟨h95, H⟩ | ⟨h95, H⟩
 ·refine W.guard true (w := ((decide (x4 < (r1_0_4.length : Int))) == true)) (by kernel_rfl) (congrArg (fun b => b == true) (decide_eq_true h95)) ?_
  refine W.adv 1 ?_
  refine W.guard true (w := ((decide (x4 < (r1_0_4.length : Int))) == true)) (by kernel_rfl) (congrArg (fun b => b == true) (decide_eq_true h95)) ?_
  refine W.adv 1 ?_
  refine W.opS (OpIs.pk true (t := (decide (x4 < (r1_0_4.length : Int)))) (x := (.bool (decide (x4 < 4)))) (y := (.bool false)) (by kernel_rfl) (decide_eq_true h95)) ?_
  refine W.adv 2 ?_
  rcases H with ⟨h96, H⟩ | ⟨h96, H⟩
  ·refine W.cond true (w := (decide (x4 < 4))) (by kernel_rfl) (decide_eq_true h96) ?_
   refine W.adv 17 ?_
   exact W.to_loop (P := ref22_CleanRule_l4_s x4 0 r1_0_0 r1_0_1 r1_0_2 r1_0_3 r1_0_4 r2_0_0 r2_0_1 r2_0_2 r2_0_3 r3_0_0 r3_0_1 r3_0_2 r3_0_3 r76 n76) (H _ ln_76) (by kernel_rfl)
  ·refine W.cond false (w := (decide (x4 < 4))) (by kernel_rfl) (decide_eq_false h96) ?_
   refine W.adv 12 ?_
   exact W.fin (x := .ret) (by kernel_rfl) (Ans.of (d := (.agg [.str r3_0_0, .int .u32 r3_0_1, .int .i64 r3_0_2, .bool r3_0_3, (.sref 76 ((vs 76) + 1) 1 0 n76)])) (d' := (.agg [.str r3_0_0, .int .u32 r3_0_1, .int .i64 r3_0_2, .bool r3_0_3, (.list 1 (r76.map E46))])) (e' := (.agg [.str r3_0_0, .int .u32 r3_0_1, .int .i64 r3_0_2, .bool r3_0_3, (.list 1 (r76.map E46))])) (by kernel_rfl) ((congrArg (fun h => reify h DEPTH (.agg [.str r3_0_0, .int .u32 r3_0_1, .int .i64 r3_0_2, .bool r3_0_3, (.sref 76 ((vs 76) + 1) 1 0 n76)])) (tidy_ver (b := 76) (v := (vs 76)) (fz := false) (y := .rows 1 (r76.map E46)) (by kernel_rfl))).trans (rf_agg (rf_cons (by kernel_rfl) (rf_cons (by kernel_rfl) (rf_cons (by kernel_rfl) (rf_cons (by kernel_rfl) (rf_cons (rf_fullE (enc := E46) E46_t (b := 76) (v := ((vs 76) + 1)) (w := ((vs 76) + 1)) (fz := false) (xs := r76) (by kernel_rfl) rfl ln_76) rf_nil))))))) (by kernel_rfl) (by rw [H.1, H.2.1, H.2.2.1, H.2.2.2.1, H.2.2.2.2]))
 ·refine W.guard false (w := ((decide (x4 < (r1_0_4.length : Int))) == true)) (by kernel_rfl) (congrArg (fun b => b == true) (decide_eq_false h95)) ?_
  refine W.guard false (w := ((decide (x4 < (r1_0_4.length : Int))) == true)) (by kernel_rfl) (congrArg (fun b => b == true) (decide_eq_false h95)) ?_
  refine W.opS (OpIs.pk false (t := (decide (x4 < (r1_0_4.length : Int)))) (x := (.tuple [])) (y := (.bool false)) (by kernel_rfl) (decide_eq_false h95)) ?_
  refine W.adv 15 ?_
  exact W.fin (x := .ret) (by kernel_rfl) (Ans.of (d := (.agg [.str r3_0_0, .int .u32 r3_0_1, .int .i64 r3_0_2, .bool r3_0_3, (.sref 76 ((vs 76) + 1) 1 0 n76)])) (d' := (.agg [.str r3_0_0, .int .u32 r3_0_1, .int .i64 r3_0_2, .bool r3_0_3, (.list 1 (r76.map E46))])) (e' := (.agg [.str r3_0_0, .int .u32 r3_0_1, .int .i64 r3_0_2, .bool r3_0_3, (.list 1 (r76.map E46))])) (by kernel_rfl) ((congrArg (fun h => reify h DEPTH (.agg [.str r3_0_0, .int .u32 r3_0_1, .int .i64 r3_0_2, .bool r3_0_3, (.sref 76 ((vs 76) + 1) 1 0 n76)])) (tidy_ver (b := 76) (v := (vs 76)) (fz := false) (y := .rows 1 (r76.map E46)) (by kernel_rfl))).trans (rf_agg (rf_cons (by kernel_rfl) (rf_cons (by kernel_rfl) (rf_cons (by kernel_rfl) (rf_cons (by kernel_rfl) (rf_cons (rf_fullE (enc := E46) E46_t (b := 76) (v := ((vs 76) + 1)) (w := ((vs 76) + 1)) (fz := false) (xs := r76) (by kernel_rfl) rfl ln_76) rf_nil))))))) (by kernel_rfl) (by rw [H.1, H.2.1, H.2.2.1, H.2.2.2.1, H.2.2.2.2]))
theorem ref22_CleanRule_l4_go {x4 : Int} {x6 : Int} {r1_0_0 : ByteArray} {r1_0_1 : Int} {r1_0_2 : Int} {r1_0_3 : Bool} {r1_0_4 : List T46} {r2_0_0 : ByteArray} {r2_0_1 : Int} {r2_0_2 : Int} {r2_0_3 : Bool} {r3_0_0 : ByteArray} {r3_0_1 : Int} {r3_0_2 : Int} {r3_0_3 : Bool} {r76 : List T46} {z_0 : ByteArray} {z_1 : Int} {z_2 : Int} {z_3 : Bool} {z_4 : List T46} (H : (0 ≤ x4 ∧ (x4 < (r1_0_4.length : Int) ∧ ((x6 < ((r1_0_4.getD (x4).toNat []).length : Int) ∧ ((x6 < 5 ∧ (0 ≤ x6 ∧ (∃ e102 : ByteArray, (∃ e103 : Int, ((r1_0_4.getD (x4).toNat []).getD (x6).toNat (ByteArray.empty, 0) = (e102, e103) ∧ ((e103 < (-1000000) ∧ (∃ e106 : ByteArray, (∃ e107 : Int, ((r1_0_4.getD (x4).toNat []).getD (x6).toNat (ByteArray.empty, 0) = (e106, e107) ∧ (∃ c109 : ByteArray, (ref22_short_R e106 c109 ∧ ((1 + 192) * (24 + 1) ≤ 70368744177664 ∧ (∃ y111 : List T_api_Hop, y111 = [(c109, 2)] ∧ (ref22_CleanRule_l5 x4 (wi (x6 + 1)) r1_0_0 r1_0_1 r1_0_2 r1_0_3 r1_0_4 r2_0_0 r2_0_1 r2_0_2 r2_0_3 r3_0_0 r3_0_1 r3_0_2 r3_0_3 y111 r76 z_0 z_1 z_2 z_3 z_4))))))))) ∨ (¬ e103 < (-1000000) ∧ ((2147483648 < e103 ∧ (∃ e116 : ByteArray, (∃ e117 : Int, ((r1_0_4.getD (x4).toNat []).getD (x6).toNat (ByteArray.empty, 0) = (e116, e117) ∧ (∃ c119 : ByteArray, (ref22_short_R e116 c119 ∧ ((1 + 192) * (24 + 1) ≤ 70368744177664 ∧ (∃ y121 : List T_api_Hop, y121 = [(c119, 2)] ∧ (ref22_CleanRule_l5 x4 (wi (x6 + 1)) r1_0_0 r1_0_1 r1_0_2 r1_0_3 r1_0_4 r2_0_0 r2_0_1 r2_0_2 r2_0_3 r3_0_0 r3_0_1 r3_0_2 r3_0_3 y121 r76 z_0 z_1 z_2 z_3 z_4))))))))) ∨ (¬ 2147483648 < e103 ∧ (∃ e125 : ByteArray, (∃ e126 : Int, ((r1_0_4.getD (x4).toNat []).getD (x6).toNat (ByteArray.empty, 0) = (e125, e126) ∧ (∃ c128 : ByteArray, (ref22_short_R e125 c128 ∧ ((1 + 192) * (24 + 1) ≤ 70368744177664 ∧ (∃ y130 : List T_api_Hop, y130 = [(c128, e103)] ∧ (ref22_CleanRule_l5 x4 (wi (x6 + 1)) r1_0_0 r1_0_1 r1_0_2 r1_0_3 r1_0_4 r2_0_0 r2_0_1 r2_0_2 r2_0_3 r3_0_0 r3_0_1 r3_0_2 r3_0_3 y130 r76 z_0 z_1 z_2 z_3 z_4))))))))))))))))) ∨ (¬ x6 < 5 ∧ ((r76.length + 1 + 192) * (24 + 1) ≤ 70368744177664 ∧ (∃ y134 : List T46, y134 = r76 ++ [[]] ∧ (ref22_CleanRule_l3 (wi (x4 + 1)) r1_0_0 r1_0_1 r1_0_2 r1_0_3 r1_0_4 r2_0_0 r2_0_1 r2_0_2 r2_0_3 r3_0_0 r3_0_1 r3_0_2 r3_0_3 y134 z_0 z_1 z_2 z_3 z_4)))))) ∨ (¬ x6 < ((r1_0_4.getD (x4).toNat []).length : Int) ∧ ((r76.length + 1 + 192) * (24 + 1) ≤ 70368744177664 ∧ (∃ y138 : List T46, y138 = r76 ++ [[]] ∧ (ref22_CleanRule_l3 (wi (x4 + 1)) r1_0_0 r1_0_1 r1_0_2 r1_0_3 r1_0_4 r2_0_0 r2_0_1 r2_0_2 r2_0_3 r3_0_0 r3_0_1 r3_0_2 r3_0_3 y138 z_0 z_1 z_2 z_3 z_4)))))))) : ref22_CleanRule_l4 x4 x6 r1_0_0 r1_0_1 r1_0_2 r1_0_3 r1_0_4 r2_0_0 r2_0_1 r2_0_2 r2_0_3 r3_0_0 r3_0_1 r3_0_2 r3_0_3 r76 z_0 z_1 z_2 z_3 z_4 := by
 intro n76 ln_76 j jb vs
 refine W.adv 1 ?_
 refine W.adv 7 ?_
 obtain ⟨h97, h98, H⟩ := H
 refine W.opS (OpIs.ixE (enc := E46) (n := 1) (k' := .i64) (L := r1_0_4) (i := x4) (d0 := []) (x := (r1_0_4.getD (x4).toNat [])) (by kernel_rfl) h97 h98 rfl) ?_
 refine W.adv 1 ?_
 refine W.opS (OpIs.ln (n := ((r1_0_4.getD (x4).toNat []).map E_api_Hop).length) (m := (r1_0_4.getD (x4).toNat []).length) (by kernel_rfl) (by rw [List.length_map])) ?_
 refine W.adv 2 ?_
 rcases H with ⟨h99, H⟩ | ⟨h99, H⟩
 ·refine W.guard true (w := ((decide (x6 < ((r1_0_4.getD (x4).toNat []).length : Int))) == true)) (by kernel_rfl) (congrArg (fun b => b == true) (decide_eq_true h99)) ?_
  refine W.adv 1 ?_
  refine W.guard true (w := ((decide (x6 < ((r1_0_4.getD (x4).toNat []).length : Int))) == true)) (by kernel_rfl) (congrArg (fun b => b == true) (decide_eq_true h99)) ?_
  refine W.adv 1 ?_
  refine W.opS (OpIs.pk true (t := (decide (x6 < ((r1_0_4.getD (x4).toNat []).length : Int)))) (x := (.bool (decide (x6 < 5)))) (y := (.bool false)) (by kernel_rfl) (decide_eq_true h99)) ?_
  refine W.adv 2 ?_
  rcases H with ⟨h100, H⟩ | ⟨h100, H⟩
  ·refine W.cond true (w := (decide (x6 < 5))) (by kernel_rfl) (decide_eq_true h100) ?_
   refine W.adv 9 ?_
   refine W.opS (OpIs.ixE (enc := E46) (n := 1) (k' := .i64) (L := r1_0_4) (i := x4) (d0 := []) (x := (r1_0_4.getD (x4).toNat [])) (by kernel_rfl) h97 h98 rfl) ?_
   refine W.adv 2 ?_
   obtain ⟨h101, H⟩ := H
   obtain ⟨e102, e103, he104, H⟩ := H
   refine W.opS (OpIs.ixE (enc := E_api_Hop) (n := 2) (k' := .i64) (L := (r1_0_4.getD (x4).toNat [])) (i := x6) (d0 := (ByteArray.empty, 0)) (x := (e102, e103)) (by kernel_rfl) h101 h99 he104) ?_
   refine W.adv 11 ?_
   rcases H with ⟨h105, H⟩ | ⟨h105, H⟩
   ·refine W.guard false (w := ((decide (e103 < (-1000000))) == false)) (by kernel_rfl) (congrArg (fun b => b == false) (decide_eq_true h105)) ?_
    refine W.guard false (w := ((decide (e103 < (-1000000))) == false)) (by kernel_rfl) (congrArg (fun b => b == false) (decide_eq_true h105)) ?_
    refine W.opS (OpIs.pk true (t := (decide (e103 < (-1000000)))) (x := (.bool true)) (y := (.tuple [])) (by kernel_rfl) (decide_eq_true h105)) ?_
    refine W.adv 12 ?_
    refine W.opS (OpIs.ixE (enc := E46) (n := 1) (k' := .i64) (L := r1_0_4) (i := x4) (d0 := []) (x := (r1_0_4.getD (x4).toNat [])) (by kernel_rfl) h97 h98 rfl) ?_
    refine W.adv 2 ?_
    obtain ⟨e106, e107, he108, H⟩ := H
    refine W.opS (OpIs.ixE (enc := E_api_Hop) (n := 2) (k' := .i64) (L := (r1_0_4.getD (x4).toNat [])) (i := x6) (d0 := (ByteArray.empty, 0)) (x := (e106, e107)) (by kernel_rfl) h101 h99 he108) ?_
    refine W.adv 2 ?_
    obtain ⟨c109, hc110, H⟩ := H
    refine W.callR (g := 14) (ds := [.str e106]) (es := [.str e106]) (r := (.str c109)) (by kernel_rfl) (by kernel_rfl) (Ic.args hc110 (by kernel_rfl)) (by kernel_rfl) ?_
    refine W.adv 3 ?_
    obtain ⟨h114, H⟩ := H
    obtain ⟨y111, hy112, H⟩ := H
    have ln113 : 1 = y111.length := by rw [hy112] <;> rfl
    refine W.opH (OpIs.apENil (enc := E_api_Hop) (y := (.lit (.list 2 [(.agg [.str c109, .int .i64 2])]))) (B := none) (n := 24) (d := 71) (v := (jb 71).ver) (m := 2) (ys := [(c109, 2)]) (by kernel_rfl) (by kernel_rfl) hy112 h114) ?_
    refine W.adv 10 ?_
    exact W.to_loop (P := ref22_CleanRule_l5_s x4 (wi (x6 + 1)) r1_0_0 r1_0_1 r1_0_2 r1_0_3 r1_0_4 r2_0_0 r2_0_1 r2_0_2 r2_0_3 r3_0_0 r3_0_1 r3_0_2 r3_0_3 y111 r76 1 n76) (H _ ln113 _ ln_76) (by kernel_rfl)
   ·refine W.guard true (w := ((decide (e103 < (-1000000))) == false)) (by kernel_rfl) (congrArg (fun b => b == false) (decide_eq_false h105)) ?_
    refine W.adv 1 ?_
    refine W.guard true (w := ((decide (e103 < (-1000000))) == false)) (by kernel_rfl) (congrArg (fun b => b == false) (decide_eq_false h105)) ?_
    refine W.adv 1 ?_
    refine W.opS (OpIs.pk false (t := (decide (e103 < (-1000000)))) (x := (.bool true)) (y := (.bool (decide (2147483648 < e103)))) (by kernel_rfl) (decide_eq_false h105)) ?_
    refine W.adv 2 ?_
    rcases H with ⟨h115, H⟩ | ⟨h115, H⟩
    ·refine W.cond true (w := (decide (2147483648 < e103))) (by kernel_rfl) (decide_eq_true h115) ?_
     refine W.adv 9 ?_
     refine W.opS (OpIs.ixE (enc := E46) (n := 1) (k' := .i64) (L := r1_0_4) (i := x4) (d0 := []) (x := (r1_0_4.getD (x4).toNat [])) (by kernel_rfl) h97 h98 rfl) ?_
     refine W.adv 2 ?_
     obtain ⟨e116, e117, he118, H⟩ := H
     refine W.opS (OpIs.ixE (enc := E_api_Hop) (n := 2) (k' := .i64) (L := (r1_0_4.getD (x4).toNat [])) (i := x6) (d0 := (ByteArray.empty, 0)) (x := (e116, e117)) (by kernel_rfl) h101 h99 he118) ?_
     refine W.adv 2 ?_
     obtain ⟨c119, hc120, H⟩ := H
     refine W.callR (g := 14) (ds := [.str e116]) (es := [.str e116]) (r := (.str c119)) (by kernel_rfl) (by kernel_rfl) (Ic.args hc120 (by kernel_rfl)) (by kernel_rfl) ?_
     refine W.adv 3 ?_
     obtain ⟨h124, H⟩ := H
     obtain ⟨y121, hy122, H⟩ := H
     have ln123 : 1 = y121.length := by rw [hy122] <;> rfl
     refine W.opH (OpIs.apENil (enc := E_api_Hop) (y := (.lit (.list 2 [(.agg [.str c119, .int .i64 2])]))) (B := none) (n := 24) (d := 71) (v := (jb 71).ver) (m := 2) (ys := [(c119, 2)]) (by kernel_rfl) (by kernel_rfl) hy122 h124) ?_
     refine W.adv 10 ?_
     exact W.to_loop (P := ref22_CleanRule_l5_s x4 (wi (x6 + 1)) r1_0_0 r1_0_1 r1_0_2 r1_0_3 r1_0_4 r2_0_0 r2_0_1 r2_0_2 r2_0_3 r3_0_0 r3_0_1 r3_0_2 r3_0_3 y121 r76 1 n76) (H _ ln123 _ ln_76) (by kernel_rfl)
    ·refine W.cond false (w := (decide (2147483648 < e103))) (by kernel_rfl) (decide_eq_false h115) ?_
     refine W.adv 7 ?_
     refine W.opS (OpIs.ixE (enc := E46) (n := 1) (k' := .i64) (L := r1_0_4) (i := x4) (d0 := []) (x := (r1_0_4.getD (x4).toNat [])) (by kernel_rfl) h97 h98 rfl) ?_
     refine W.adv 2 ?_
     obtain ⟨e125, e126, he127, H⟩ := H
     refine W.opS (OpIs.ixE (enc := E_api_Hop) (n := 2) (k' := .i64) (L := (r1_0_4.getD (x4).toNat [])) (i := x6) (d0 := (ByteArray.empty, 0)) (x := (e125, e126)) (by kernel_rfl) h101 h99 he127) ?_
     refine W.adv 2 ?_
     obtain ⟨c128, hc129, H⟩ := H
     refine W.callR (g := 14) (ds := [.str e125]) (es := [.str e125]) (r := (.str c128)) (by kernel_rfl) (by kernel_rfl) (Ic.args hc129 (by kernel_rfl)) (by kernel_rfl) ?_
     refine W.adv 3 ?_
     obtain ⟨h133, H⟩ := H
     obtain ⟨y130, hy131, H⟩ := H
     have ln132 : 1 = y130.length := by rw [hy131] <;> rfl
     refine W.opH (OpIs.apENil (enc := E_api_Hop) (y := (.lit (.list 2 [(.agg [.str c128, .int .i64 e103])]))) (B := none) (n := 24) (d := 71) (v := (jb 71).ver) (m := 2) (ys := [(c128, e103)]) (by kernel_rfl) (by kernel_rfl) hy131 h133) ?_
     refine W.adv 10 ?_
     exact W.to_loop (P := ref22_CleanRule_l5_s x4 (wi (x6 + 1)) r1_0_0 r1_0_1 r1_0_2 r1_0_3 r1_0_4 r2_0_0 r2_0_1 r2_0_2 r2_0_3 r3_0_0 r3_0_1 r3_0_2 r3_0_3 y130 r76 1 n76) (H _ ln132 _ ln_76) (by kernel_rfl)
  ·refine W.cond false (w := (decide (x6 < 5))) (by kernel_rfl) (decide_eq_false h100) ?_
   refine W.adv 10 ?_
   obtain ⟨h137, H⟩ := H
   obtain ⟨y134, hy135, H⟩ := H
   have ln136 : (r76.length + 1) = y134.length := by rw [hy135, List.length_append] <;> rfl
   refine W.opK (OpIs.apERow (enc := E46) (y := (.lit (.list 1 [.list 2 []]))) (n := 24) (d := 76) (dv := ((vs 76) + 1)) (b := 76) (v := ((vs 76) + 1)) (w := ((vs 76) + 1)) (len := n76) (m := 1) (xs := r76) (ys := [[]]) (by kernel_rfl) (by kernel_rfl) hy135 rfl ln_76 h137) ?_
   refine W.adv 11 ?_
   exact W.to_loop (P := ref22_CleanRule_l3_s (wi (x4 + 1)) r1_0_0 r1_0_1 r1_0_2 r1_0_3 r1_0_4 r2_0_0 r2_0_1 r2_0_2 r2_0_3 r3_0_0 r3_0_1 r3_0_2 r3_0_3 y134 (r76.length + 1)) (H _ ln136) (by kernel_rfl)
 ·refine W.guard false (w := ((decide (x6 < ((r1_0_4.getD (x4).toNat []).length : Int))) == true)) (by kernel_rfl) (congrArg (fun b => b == true) (decide_eq_false h99)) ?_
  refine W.guard false (w := ((decide (x6 < ((r1_0_4.getD (x4).toNat []).length : Int))) == true)) (by kernel_rfl) (congrArg (fun b => b == true) (decide_eq_false h99)) ?_
  refine W.opS (OpIs.pk false (t := (decide (x6 < ((r1_0_4.getD (x4).toNat []).length : Int)))) (x := (.tuple [])) (y := (.bool false)) (by kernel_rfl) (decide_eq_false h99)) ?_
  refine W.adv 13 ?_
  obtain ⟨h141, H⟩ := H
  obtain ⟨y138, hy139, H⟩ := H
  have ln140 : (r76.length + 1) = y138.length := by rw [hy139, List.length_append] <;> rfl
  refine W.opK (OpIs.apERow (enc := E46) (y := (.lit (.list 1 [.list 2 []]))) (n := 24) (d := 76) (dv := ((vs 76) + 1)) (b := 76) (v := ((vs 76) + 1)) (w := ((vs 76) + 1)) (len := n76) (m := 1) (xs := r76) (ys := [[]]) (by kernel_rfl) (by kernel_rfl) hy139 rfl ln_76 h141) ?_
  refine W.adv 11 ?_
  exact W.to_loop (P := ref22_CleanRule_l3_s (wi (x4 + 1)) r1_0_0 r1_0_1 r1_0_2 r1_0_3 r1_0_4 r2_0_0 r2_0_1 r2_0_2 r2_0_3 r3_0_0 r3_0_1 r3_0_2 r3_0_3 y138 (r76.length + 1)) (H _ ln140) (by kernel_rfl)
theorem ref22_CleanRule_l5_go {x4 : Int} {x6 : Int} {r1_0_0 : ByteArray} {r1_0_1 : Int} {r1_0_2 : Int} {r1_0_3 : Bool} {r1_0_4 : List T46} {r2_0_0 : ByteArray} {r2_0_1 : Int} {r2_0_2 : Int} {r2_0_3 : Bool} {r3_0_0 : ByteArray} {r3_0_1 : Int} {r3_0_2 : Int} {r3_0_3 : Bool} {r71 : List T_api_Hop} {r76 : List T46} {z_0 : ByteArray} {z_1 : Int} {z_2 : Int} {z_3 : Bool} {z_4 : List T46} (H : (0 ≤ x4 ∧ (x4 < (r1_0_4.length : Int) ∧ ((x6 < ((r1_0_4.getD (x4).toNat []).length : Int) ∧ ((x6 < 5 ∧ (0 ≤ x6 ∧ (∃ e147 : ByteArray, (∃ e148 : Int, ((r1_0_4.getD (x4).toNat []).getD (x6).toNat (ByteArray.empty, 0) = (e147, e148) ∧ ((e148 < (-1000000) ∧ (∃ e151 : ByteArray, (∃ e152 : Int, ((r1_0_4.getD (x4).toNat []).getD (x6).toNat (ByteArray.empty, 0) = (e151, e152) ∧ (∃ c154 : ByteArray, (ref22_short_R e151 c154 ∧ ((r71.length + 1 + 192) * (24 + 1) ≤ 70368744177664 ∧ (∃ y156 : List T_api_Hop, y156 = r71 ++ [(c154, 2)] ∧ (ref22_CleanRule_l5 x4 (wi (x6 + 1)) r1_0_0 r1_0_1 r1_0_2 r1_0_3 r1_0_4 r2_0_0 r2_0_1 r2_0_2 r2_0_3 r3_0_0 r3_0_1 r3_0_2 r3_0_3 y156 r76 z_0 z_1 z_2 z_3 z_4))))))))) ∨ (¬ e148 < (-1000000) ∧ ((2147483648 < e148 ∧ (∃ e161 : ByteArray, (∃ e162 : Int, ((r1_0_4.getD (x4).toNat []).getD (x6).toNat (ByteArray.empty, 0) = (e161, e162) ∧ (∃ c164 : ByteArray, (ref22_short_R e161 c164 ∧ ((r71.length + 1 + 192) * (24 + 1) ≤ 70368744177664 ∧ (∃ y166 : List T_api_Hop, y166 = r71 ++ [(c164, 2)] ∧ (ref22_CleanRule_l5 x4 (wi (x6 + 1)) r1_0_0 r1_0_1 r1_0_2 r1_0_3 r1_0_4 r2_0_0 r2_0_1 r2_0_2 r2_0_3 r3_0_0 r3_0_1 r3_0_2 r3_0_3 y166 r76 z_0 z_1 z_2 z_3 z_4))))))))) ∨ (¬ 2147483648 < e148 ∧ (∃ e170 : ByteArray, (∃ e171 : Int, ((r1_0_4.getD (x4).toNat []).getD (x6).toNat (ByteArray.empty, 0) = (e170, e171) ∧ (∃ c173 : ByteArray, (ref22_short_R e170 c173 ∧ ((r71.length + 1 + 192) * (24 + 1) ≤ 70368744177664 ∧ (∃ y175 : List T_api_Hop, y175 = r71 ++ [(c173, e148)] ∧ (ref22_CleanRule_l5 x4 (wi (x6 + 1)) r1_0_0 r1_0_1 r1_0_2 r1_0_3 r1_0_4 r2_0_0 r2_0_1 r2_0_2 r2_0_3 r3_0_0 r3_0_1 r3_0_2 r3_0_3 y175 r76 z_0 z_1 z_2 z_3 z_4))))))))))))))))) ∨ (¬ x6 < 5 ∧ ((r76.length + 1 + 192) * (24 + 1) ≤ 70368744177664 ∧ (∃ y179 : List T46, y179 = r76 ++ [r71] ∧ (ref22_CleanRule_l3 (wi (x4 + 1)) r1_0_0 r1_0_1 r1_0_2 r1_0_3 r1_0_4 r2_0_0 r2_0_1 r2_0_2 r2_0_3 r3_0_0 r3_0_1 r3_0_2 r3_0_3 y179 z_0 z_1 z_2 z_3 z_4)))))) ∨ (¬ x6 < ((r1_0_4.getD (x4).toNat []).length : Int) ∧ ((r76.length + 1 + 192) * (24 + 1) ≤ 70368744177664 ∧ (∃ y183 : List T46, y183 = r76 ++ [r71] ∧ (ref22_CleanRule_l3 (wi (x4 + 1)) r1_0_0 r1_0_1 r1_0_2 r1_0_3 r1_0_4 r2_0_0 r2_0_1 r2_0_2 r2_0_3 r3_0_0 r3_0_1 r3_0_2 r3_0_3 y183 z_0 z_1 z_2 z_3 z_4)))))))) : ref22_CleanRule_l5 x4 x6 r1_0_0 r1_0_1 r1_0_2 r1_0_3 r1_0_4 r2_0_0 r2_0_1 r2_0_2 r2_0_3 r3_0_0 r3_0_1 r3_0_2 r3_0_3 r71 r76 z_0 z_1 z_2 z_3 z_4 := by
 intro n71 ln_71 n76 ln_76 j jb vs
 refine W.adv 1 ?_
 refine W.adv 7 ?_
 obtain ⟨h142, h143, H⟩ := H
 refine W.opS (OpIs.ixE (enc := E46) (n := 1) (k' := .i64) (L := r1_0_4) (i := x4) (d0 := []) (x := (r1_0_4.getD (x4).toNat [])) (by kernel_rfl) h142 h143 rfl) ?_
 refine W.adv 1 ?_
 refine W.opS (OpIs.ln (n := ((r1_0_4.getD (x4).toNat []).map E_api_Hop).length) (m := (r1_0_4.getD (x4).toNat []).length) (by kernel_rfl) (by rw [List.length_map])) ?_
 refine W.adv 2 ?_
 rcases H with ⟨h144, H⟩ | ⟨h144, H⟩
 ·refine W.guard true (w := ((decide (x6 < ((r1_0_4.getD (x4).toNat []).length : Int))) == true)) (by kernel_rfl) (congrArg (fun b => b == true) (decide_eq_true h144)) ?_
  refine W.adv 1 ?_
  refine W.guard true (w := ((decide (x6 < ((r1_0_4.getD (x4).toNat []).length : Int))) == true)) (by kernel_rfl) (congrArg (fun b => b == true) (decide_eq_true h144)) ?_
  refine W.adv 1 ?_
  refine W.opS (OpIs.pk true (t := (decide (x6 < ((r1_0_4.getD (x4).toNat []).length : Int)))) (x := (.bool (decide (x6 < 5)))) (y := (.bool false)) (by kernel_rfl) (decide_eq_true h144)) ?_
  refine W.adv 2 ?_
  rcases H with ⟨h145, H⟩ | ⟨h145, H⟩
  ·refine W.cond true (w := (decide (x6 < 5))) (by kernel_rfl) (decide_eq_true h145) ?_
   refine W.adv 9 ?_
   refine W.opS (OpIs.ixE (enc := E46) (n := 1) (k' := .i64) (L := r1_0_4) (i := x4) (d0 := []) (x := (r1_0_4.getD (x4).toNat [])) (by kernel_rfl) h142 h143 rfl) ?_
   refine W.adv 2 ?_
   obtain ⟨h146, H⟩ := H
   obtain ⟨e147, e148, he149, H⟩ := H
   refine W.opS (OpIs.ixE (enc := E_api_Hop) (n := 2) (k' := .i64) (L := (r1_0_4.getD (x4).toNat [])) (i := x6) (d0 := (ByteArray.empty, 0)) (x := (e147, e148)) (by kernel_rfl) h146 h144 he149) ?_
   refine W.adv 11 ?_
   rcases H with ⟨h150, H⟩ | ⟨h150, H⟩
   ·refine W.guard false (w := ((decide (e148 < (-1000000))) == false)) (by kernel_rfl) (congrArg (fun b => b == false) (decide_eq_true h150)) ?_
    refine W.guard false (w := ((decide (e148 < (-1000000))) == false)) (by kernel_rfl) (congrArg (fun b => b == false) (decide_eq_true h150)) ?_
    refine W.opS (OpIs.pk true (t := (decide (e148 < (-1000000)))) (x := (.bool true)) (y := (.tuple [])) (by kernel_rfl) (decide_eq_true h150)) ?_
    refine W.adv 12 ?_
    refine W.opS (OpIs.ixE (enc := E46) (n := 1) (k' := .i64) (L := r1_0_4) (i := x4) (d0 := []) (x := (r1_0_4.getD (x4).toNat [])) (by kernel_rfl) h142 h143 rfl) ?_
    refine W.adv 2 ?_
    obtain ⟨e151, e152, he153, H⟩ := H
    refine W.opS (OpIs.ixE (enc := E_api_Hop) (n := 2) (k' := .i64) (L := (r1_0_4.getD (x4).toNat [])) (i := x6) (d0 := (ByteArray.empty, 0)) (x := (e151, e152)) (by kernel_rfl) h146 h144 he153) ?_
    refine W.adv 2 ?_
    obtain ⟨c154, hc155, H⟩ := H
    refine W.callR (g := 14) (ds := [.str e151]) (es := [.str e151]) (r := (.str c154)) (by kernel_rfl) (by kernel_rfl) (Ic.args hc155 (by kernel_rfl)) (by kernel_rfl) ?_
    refine W.adv 3 ?_
    obtain ⟨h159, H⟩ := H
    obtain ⟨y156, hy157, H⟩ := H
    have ln158 : (r71.length + 1) = y156.length := by rw [hy157, List.length_append] <;> rfl
    refine W.opK (OpIs.apERow (enc := E_api_Hop) (y := (.lit (.list 2 [(.agg [.str c154, .int .i64 2])]))) (n := 24) (d := 71) (dv := ((vs 71) + 1)) (b := 71) (v := ((vs 71) + 1)) (w := ((vs 71) + 1)) (len := n71) (m := 2) (xs := r71) (ys := [(c154, 2)]) (by kernel_rfl) (by kernel_rfl) hy157 rfl ln_71 h159) ?_
    refine W.adv 10 ?_
    exact W.to_loop (P := ref22_CleanRule_l5_s x4 (wi (x6 + 1)) r1_0_0 r1_0_1 r1_0_2 r1_0_3 r1_0_4 r2_0_0 r2_0_1 r2_0_2 r2_0_3 r3_0_0 r3_0_1 r3_0_2 r3_0_3 y156 r76 (r71.length + 1) n76) (H _ ln158 _ ln_76) (by kernel_rfl)
   ·refine W.guard true (w := ((decide (e148 < (-1000000))) == false)) (by kernel_rfl) (congrArg (fun b => b == false) (decide_eq_false h150)) ?_
    refine W.adv 1 ?_
    refine W.guard true (w := ((decide (e148 < (-1000000))) == false)) (by kernel_rfl) (congrArg (fun b => b == false) (decide_eq_false h150)) ?_
    refine W.adv 1 ?_
    refine W.opS (OpIs.pk false (t := (decide (e148 < (-1000000)))) (x := (.bool true)) (y := (.bool (decide (2147483648 < e148)))) (by kernel_rfl) (decide_eq_false h150)) ?_
    refine W.adv 2 ?_
    rcases H with ⟨h160, H⟩ | ⟨h160, H⟩
    ·refine W.cond true (w := (decide (2147483648 < e148))) (by kernel_rfl) (decide_eq_true h160) ?_
     refine W.adv 9 ?_
     refine W.opS (OpIs.ixE (enc := E46) (n := 1) (k' := .i64) (L := r1_0_4) (i := x4) (d0 := []) (x := (r1_0_4.getD (x4).toNat [])) (by kernel_rfl) h142 h143 rfl) ?_
     refine W.adv 2 ?_
     obtain ⟨e161, e162, he163, H⟩ := H
     refine W.opS (OpIs.ixE (enc := E_api_Hop) (n := 2) (k' := .i64) (L := (r1_0_4.getD (x4).toNat [])) (i := x6) (d0 := (ByteArray.empty, 0)) (x := (e161, e162)) (by kernel_rfl) h146 h144 he163) ?_
     refine W.adv 2 ?_
     obtain ⟨c164, hc165, H⟩ := H
     refine W.callR (g := 14) (ds := [.str e161]) (es := [.str e161]) (r := (.str c164)) (by kernel_rfl) (by kernel_rfl) (Ic.args hc165 (by kernel_rfl)) (by kernel_rfl) ?_
     refine W.adv 3 ?_
     obtain ⟨h169, H⟩ := H
     obtain ⟨y166, hy167, H⟩ := H
     have ln168 : (r71.length + 1) = y166.length := by rw [hy167, List.length_append] <;> rfl
     refine W.opK (OpIs.apERow (enc := E_api_Hop) (y := (.lit (.list 2 [(.agg [.str c164, .int .i64 2])]))) (n := 24) (d := 71) (dv := ((vs 71) + 1)) (b := 71) (v := ((vs 71) + 1)) (w := ((vs 71) + 1)) (len := n71) (m := 2) (xs := r71) (ys := [(c164, 2)]) (by kernel_rfl) (by kernel_rfl) hy167 rfl ln_71 h169) ?_
     refine W.adv 10 ?_
     exact W.to_loop (P := ref22_CleanRule_l5_s x4 (wi (x6 + 1)) r1_0_0 r1_0_1 r1_0_2 r1_0_3 r1_0_4 r2_0_0 r2_0_1 r2_0_2 r2_0_3 r3_0_0 r3_0_1 r3_0_2 r3_0_3 y166 r76 (r71.length + 1) n76) (H _ ln168 _ ln_76) (by kernel_rfl)
    ·refine W.cond false (w := (decide (2147483648 < e148))) (by kernel_rfl) (decide_eq_false h160) ?_
     refine W.adv 7 ?_
     refine W.opS (OpIs.ixE (enc := E46) (n := 1) (k' := .i64) (L := r1_0_4) (i := x4) (d0 := []) (x := (r1_0_4.getD (x4).toNat [])) (by kernel_rfl) h142 h143 rfl) ?_
     refine W.adv 2 ?_
     obtain ⟨e170, e171, he172, H⟩ := H
     refine W.opS (OpIs.ixE (enc := E_api_Hop) (n := 2) (k' := .i64) (L := (r1_0_4.getD (x4).toNat [])) (i := x6) (d0 := (ByteArray.empty, 0)) (x := (e170, e171)) (by kernel_rfl) h146 h144 he172) ?_
     refine W.adv 2 ?_
     obtain ⟨c173, hc174, H⟩ := H
     refine W.callR (g := 14) (ds := [.str e170]) (es := [.str e170]) (r := (.str c173)) (by kernel_rfl) (by kernel_rfl) (Ic.args hc174 (by kernel_rfl)) (by kernel_rfl) ?_
     refine W.adv 3 ?_
     obtain ⟨h178, H⟩ := H
     obtain ⟨y175, hy176, H⟩ := H
     have ln177 : (r71.length + 1) = y175.length := by rw [hy176, List.length_append] <;> rfl
     refine W.opK (OpIs.apERow (enc := E_api_Hop) (y := (.lit (.list 2 [(.agg [.str c173, .int .i64 e148])]))) (n := 24) (d := 71) (dv := ((vs 71) + 1)) (b := 71) (v := ((vs 71) + 1)) (w := ((vs 71) + 1)) (len := n71) (m := 2) (xs := r71) (ys := [(c173, e148)]) (by kernel_rfl) (by kernel_rfl) hy176 rfl ln_71 h178) ?_
     refine W.adv 10 ?_
     exact W.to_loop (P := ref22_CleanRule_l5_s x4 (wi (x6 + 1)) r1_0_0 r1_0_1 r1_0_2 r1_0_3 r1_0_4 r2_0_0 r2_0_1 r2_0_2 r2_0_3 r3_0_0 r3_0_1 r3_0_2 r3_0_3 y175 r76 (r71.length + 1) n76) (H _ ln177 _ ln_76) (by kernel_rfl)
  ·refine W.cond false (w := (decide (x6 < 5))) (by kernel_rfl) (decide_eq_false h145) ?_
   refine W.adv 9 ?_
   refine W.opF (OpIs.bs (t := 26) (len := 1) (is := [0]) (vs := [(.sref 71 ((vs 71) + 1) 2 0 n71)]) (es := [(.list 2 (r71.map E_api_Hop))]) (d := (.lit (.list 1 [(.list 2 (r71.map E_api_Hop))]))) (by kernel_rfl) (rf_cons (rf_fullE (enc := E_api_Hop) E_api_Hop_t (b := 71) (v := ((vs 71) + 1)) (w := ((vs 71) + 1)) (fz := false) (xs := r71) (by kernel_rfl) rfl ln_71) rf_nil) (by kernel_rfl) rfl) ?_
   obtain ⟨h182, H⟩ := H
   obtain ⟨y179, hy180, H⟩ := H
   have ln181 : (r76.length + 1) = y179.length := by rw [hy180, List.length_append] <;> rfl
   refine W.opK (OpIs.apERow (enc := E46) (y := (.lit (.list 1 [(.list 2 (r71.map E_api_Hop))]))) (n := 24) (d := 76) (dv := ((vs 76) + 1)) (b := 76) (v := ((vs 76) + 1)) (w := ((vs 76) + 1)) (len := n76) (m := 1) (xs := r76) (ys := [r71]) (by kernel_rfl) (by kernel_rfl) hy180 rfl ln_76 h182) ?_
   refine W.adv 11 ?_
   exact W.to_loop (P := ref22_CleanRule_l3_s (wi (x4 + 1)) r1_0_0 r1_0_1 r1_0_2 r1_0_3 r1_0_4 r2_0_0 r2_0_1 r2_0_2 r2_0_3 r3_0_0 r3_0_1 r3_0_2 r3_0_3 y179 (r76.length + 1)) (H _ ln181) (by kernel_rfl)
 ·refine W.guard false (w := ((decide (x6 < ((r1_0_4.getD (x4).toNat []).length : Int))) == true)) (by kernel_rfl) (congrArg (fun b => b == true) (decide_eq_false h144)) ?_
  refine W.guard false (w := ((decide (x6 < ((r1_0_4.getD (x4).toNat []).length : Int))) == true)) (by kernel_rfl) (congrArg (fun b => b == true) (decide_eq_false h144)) ?_
  refine W.opS (OpIs.pk false (t := (decide (x6 < ((r1_0_4.getD (x4).toNat []).length : Int)))) (x := (.tuple [])) (y := (.bool false)) (by kernel_rfl) (decide_eq_false h144)) ?_
  refine W.adv 12 ?_
  refine W.opF (OpIs.bs (t := 26) (len := 1) (is := [0]) (vs := [(.sref 71 ((vs 71) + 1) 2 0 n71)]) (es := [(.list 2 (r71.map E_api_Hop))]) (d := (.lit (.list 1 [(.list 2 (r71.map E_api_Hop))]))) (by kernel_rfl) (rf_cons (rf_fullE (enc := E_api_Hop) E_api_Hop_t (b := 71) (v := ((vs 71) + 1)) (w := ((vs 71) + 1)) (fz := false) (xs := r71) (by kernel_rfl) rfl ln_71) rf_nil) (by kernel_rfl) rfl) ?_
  obtain ⟨h186, H⟩ := H
  obtain ⟨y183, hy184, H⟩ := H
  have ln185 : (r76.length + 1) = y183.length := by rw [hy184, List.length_append] <;> rfl
  refine W.opK (OpIs.apERow (enc := E46) (y := (.lit (.list 1 [(.list 2 (r71.map E_api_Hop))]))) (n := 24) (d := 76) (dv := ((vs 76) + 1)) (b := 76) (v := ((vs 76) + 1)) (w := ((vs 76) + 1)) (len := n76) (m := 1) (xs := r76) (ys := [r71]) (by kernel_rfl) (by kernel_rfl) hy184 rfl ln_76 h186) ?_
  refine W.adv 11 ?_
  exact W.to_loop (P := ref22_CleanRule_l3_s (wi (x4 + 1)) r1_0_0 r1_0_1 r1_0_2 r1_0_3 r1_0_4 r2_0_0 r2_0_1 r2_0_2 r2_0_3 r3_0_0 r3_0_1 r3_0_2 r3_0_3 y183 (r76.length + 1)) (H _ ln185) (by kernel_rfl)
theorem ref22_CleanRule_go {a0_0 : ByteArray} {a0_1 : Int} {a0_2 : Int} {a0_3 : Bool} {a0_4 : List T46} {z_0 : ByteArray} {z_1 : Int} {z_2 : Int} {z_3 : Bool} {z_4 : List T46} (H : (∃ c1 : ByteArray, (ref22_short_R a0_0 c1 ∧ (ref22_CleanRule_l0 0 a0_0 a0_1 a0_2 a0_3 a0_4 (⟨#[]⟩) 0 0 false c1 a0_1 a0_2 a0_3 z_0 z_1 z_2 z_3 z_4)))) : ref22_CleanRule_R a0_0 a0_1 a0_2 a0_3 a0_4 z_0 z_1 z_2 z_3 z_4 := by
 refine W.ic (zs := [(.agg [.str a0_0, .int .u32 a0_1, .int .i64 a0_2, .bool a0_3, (.list 1 (a0_4.map E46))])]) Tryz.func5 (by kernel_rfl) (by kernel_rfl) (by kernel_rfl) (by kernel_rfl) ?_
 refine W.adv 10 ?_
 obtain ⟨c1, hc2, H⟩ := H
 refine W.callR (g := 14) (ds := [.str a0_0]) (es := [.str a0_0]) (r := (.str c1)) (by kernel_rfl) (by kernel_rfl) (Ic.args hc2 (by kernel_rfl)) (by kernel_rfl) ?_
 refine W.adv 16 ?_
 exact W.to_loop (P := ref22_CleanRule_l0_s 0 a0_0 a0_1 a0_2 a0_3 a0_4 (⟨#[]⟩) 0 0 false c1 a0_1 a0_2 a0_3) (H ) (by kernel_rfl)
noncomputable def ref22_Clean_l0_s (x0 : List T_api_Net) (x4 : Int) (r130 : List T_api_Net) (o130 : D) (B130 : Blk) (j : Nat → D) (jb : Nat → Blk) (vs : Nat → Nat) : Cf := cfAt Tryz.f13 [1, 1, 0, 1, 0] ⟨[(.list 4 (x0.map E_api_Net)), j 1, j 2, o130, .int .i64 x4, j 5, j 6, j 7, j 8, j 9, j 10, j 11, j 12, j 13, j 14, j 15, j 16, j 17, j 18, j 19, j 20, j 21, j 22, j 23, j 24, j 25, j 26, j 27, j 28, j 29, j 30, j 31, j 32, j 33, j 34, j 35, j 36, j 37, j 38, j 39, j 40, j 41, j 42, j 43, j 44, j 45, j 46, j 47, j 48, j 49, j 50, j 51, j 52, j 53, j 54, j 55, j 56, j 57, j 58, j 59, j 60, j 61, j 62, j 63, j 64, j 65, j 66, j 67, j 68, j 69, j 70, j 71, j 72, j 73, j 74, j 75, j 76, j 77, j 78, j 79, j 80, j 81, j 82, j 83, j 84, j 85, j 86, j 87, j 88, j 89, j 90, j 91, j 92, j 93, j 94, j 95, j 96, j 97, j 98, j 99, j 100, j 101, j 102, j 103, j 104, j 105, j 106, j 107, j 108, j 109, j 110, j 111, j 112, j 113, j 114, j 115, j 116, j 117, j 118, j 119, j 120, j 121, j 122, j 123, j 124, j 125, j 126, j 127, j 128, j 129, j 130, j 131], [jb 0, jb 1, jb 2, jb 3, jb 4, jb 5, jb 6, jb 7, jb 8, jb 9, jb 10, jb 11, jb 12, jb 13, jb 14, jb 15, jb 16, jb 17, jb 18, jb 19, jb 20, jb 21, jb 22, jb 23, jb 24, jb 25, jb 26, jb 27, jb 28, jb 29, jb 30, jb 31, jb 32, jb 33, jb 34, jb 35, jb 36, jb 37, jb 38, jb 39, jb 40, jb 41, jb 42, jb 43, jb 44, jb 45, jb 46, jb 47, jb 48, jb 49, jb 50, jb 51, jb 52, jb 53, jb 54, jb 55, jb 56, jb 57, jb 58, jb 59, jb 60, jb 61, jb 62, jb 63, jb 64, jb 65, jb 66, jb 67, jb 68, jb 69, jb 70, jb 71, jb 72, jb 73, jb 74, jb 75, jb 76, jb 77, jb 78, jb 79, jb 80, jb 81, jb 82, jb 83, jb 84, jb 85, jb 86, jb 87, jb 88, jb 89, jb 90, jb 91, jb 92, jb 93, jb 94, jb 95, jb 96, jb 97, jb 98, jb 99, jb 100, jb 101, jb 102, jb 103, jb 104, jb 105, jb 106, jb 107, jb 108, jb 109, jb 110, jb 111, jb 112, jb 113, jb 114, jb 115, jb 116, jb 117, jb 118, jb 119, jb 120, jb 121, jb 122, jb 123, jb 124, jb 125, jb 126, jb 127, jb 128, jb 129, B130, jb 131]⟩
def ref22_Clean_l0 (x0 : List T_api_Net) (x4 : Int) (r130 : List T_api_Net) (z : List T_api_Net) : Prop := ∀ o130 B130, Opt E_api_Net 130 4 o130 B130 r130 → ∀ j jb vs, W C F 13 0 (ref22_Clean_l0_s x0 x4 r130 o130 B130 j jb vs) (Ans C Tryz.f13 (.list 4 (z.map E_api_Net)))
noncomputable def ref22_Clean_l1_s (x0 : List T_api_Net) (x4 : Int) (x7 : Int) (r5_0_0 : ByteArray) (r5_0_1 : List T_api_Node) (r5_0_2 : List T_api_Link) (r5_0_3 : List T_api_Rule) (r6_0_0 : ByteArray) (r69 : List T_api_Node) (r130 : List T_api_Net) (o69 : D) (B69 : Blk) (o130 : D) (B130 : Blk) (j : Nat → D) (jb : Nat → Blk) (vs : Nat → Nat) : Cf := cfAt Tryz.f13 [1, 1, 0, 1, 0, 0, 1, 0, 0, 1, 1, 0, 1, 0] ⟨[(.list 4 (x0.map E_api_Net)), j 1, j 2, o130, .int .i64 x4, (.pref 5 ((vs 5) + 1) 0 0), (.pref 6 ((vs 6) + 1) 0 0), .int .i64 x7, j 8, j 9, j 10, j 11, j 12, j 13, j 14, j 15, j 16, j 17, j 18, j 19, j 20, j 21, j 22, j 23, j 24, j 25, j 26, j 27, j 28, j 29, j 30, j 31, j 32, j 33, j 34, j 35, j 36, j 37, j 38, j 39, j 40, j 41, j 42, j 43, j 44, j 45, j 46, j 47, j 48, j 49, j 50, j 51, j 52, j 53, j 54, j 55, j 56, j 57, j 58, j 59, j 60, j 61, j 62, j 63, j 64, j 65, j 66, j 67, j 68, j 69, j 70, j 71, j 72, j 73, j 74, j 75, j 76, j 77, j 78, j 79, j 80, j 81, j 82, j 83, j 84, j 85, j 86, j 87, j 88, j 89, j 90, j 91, j 92, j 93, j 94, j 95, j 96, j 97, j 98, j 99, j 100, j 101, j 102, j 103, j 104, j 105, j 106, j 107, j 108, j 109, j 110, j 111, j 112, j 113, j 114, j 115, j 116, j 117, j 118, j 119, j 120, j 121, j 122, j 123, j 124, j 125, j 126, j 127, j 128, j 129, j 130, j 131], [jb 0, jb 1, jb 2, jb 3, jb 4, ⟨((vs 5) + 1), false, .rows 4 [(.agg [.str r5_0_0, (.list 2 (r5_0_1.map E_api_Node)), (.list 6 (r5_0_2.map E_api_Link)), (.list 5 (r5_0_3.map E_api_Rule))])]⟩, ⟨((vs 6) + 1), false, .rows 4 [(.agg [.str r6_0_0, o69, .nilS, .nilS])]⟩, jb 7, jb 8, jb 9, jb 10, jb 11, jb 12, jb 13, jb 14, jb 15, jb 16, jb 17, jb 18, jb 19, jb 20, jb 21, jb 22, jb 23, jb 24, jb 25, jb 26, jb 27, jb 28, jb 29, jb 30, jb 31, jb 32, jb 33, jb 34, jb 35, jb 36, jb 37, jb 38, jb 39, jb 40, jb 41, jb 42, jb 43, jb 44, jb 45, jb 46, jb 47, jb 48, jb 49, jb 50, jb 51, jb 52, jb 53, jb 54, jb 55, jb 56, jb 57, jb 58, jb 59, jb 60, jb 61, jb 62, jb 63, jb 64, jb 65, jb 66, jb 67, jb 68, B69, jb 70, jb 71, jb 72, jb 73, jb 74, jb 75, jb 76, jb 77, jb 78, jb 79, jb 80, jb 81, jb 82, jb 83, jb 84, jb 85, jb 86, jb 87, jb 88, jb 89, jb 90, jb 91, jb 92, jb 93, jb 94, jb 95, jb 96, jb 97, jb 98, jb 99, jb 100, jb 101, jb 102, jb 103, jb 104, jb 105, jb 106, jb 107, jb 108, jb 109, jb 110, jb 111, jb 112, jb 113, jb 114, jb 115, jb 116, jb 117, jb 118, jb 119, jb 120, jb 121, jb 122, jb 123, jb 124, jb 125, jb 126, jb 127, jb 128, jb 129, B130, jb 131]⟩
def ref22_Clean_l1 (x0 : List T_api_Net) (x4 : Int) (x7 : Int) (r5_0_0 : ByteArray) (r5_0_1 : List T_api_Node) (r5_0_2 : List T_api_Link) (r5_0_3 : List T_api_Rule) (r6_0_0 : ByteArray) (r69 : List T_api_Node) (r130 : List T_api_Net) (z : List T_api_Net) : Prop := ∀ o69 B69, Opt E_api_Node 69 2 o69 B69 r69 → ∀ o130 B130, Opt E_api_Net 130 4 o130 B130 r130 → ∀ j jb vs, W C F 13 0 (ref22_Clean_l1_s x0 x4 x7 r5_0_0 r5_0_1 r5_0_2 r5_0_3 r6_0_0 r69 r130 o69 B69 o130 B130 j jb vs) (Ans C Tryz.f13 (.list 4 (z.map E_api_Net)))
noncomputable def ref22_Clean_l2_s (x0 : List T_api_Net) (x4 : Int) (x8 : Int) (r5_0_0 : ByteArray) (r5_0_1 : List T_api_Node) (r5_0_2 : List T_api_Link) (r5_0_3 : List T_api_Rule) (r6_0_0 : ByteArray) (r69 : List T_api_Node) (r103 : List T_api_Link) (r130 : List T_api_Net) (o69 : D) (B69 : Blk) (o103 : D) (B103 : Blk) (o130 : D) (B130 : Blk) (j : Nat → D) (jb : Nat → Blk) (vs : Nat → Nat) : Cf := cfAt Tryz.f13 [1, 1, 0, 1, 0, 0, 1, 0, 0, 1, 1, 1, 0, 1, 0] ⟨[(.list 4 (x0.map E_api_Net)), j 1, j 2, o130, .int .i64 x4, (.pref 5 ((vs 5) + 1) 0 0), (.pref 6 ((vs 6) + 1) 0 0), j 7, .int .i64 x8, j 9, j 10, j 11, j 12, j 13, j 14, j 15, j 16, j 17, j 18, j 19, j 20, j 21, j 22, j 23, j 24, j 25, j 26, j 27, j 28, j 29, j 30, j 31, j 32, j 33, j 34, j 35, j 36, j 37, j 38, j 39, j 40, j 41, j 42, j 43, j 44, j 45, j 46, j 47, j 48, j 49, j 50, j 51, j 52, j 53, j 54, j 55, j 56, j 57, j 58, j 59, j 60, j 61, j 62, j 63, j 64, j 65, j 66, j 67, j 68, j 69, j 70, j 71, j 72, j 73, j 74, j 75, j 76, j 77, j 78, j 79, j 80, j 81, j 82, j 83, j 84, j 85, j 86, j 87, j 88, j 89, j 90, j 91, j 92, j 93, j 94, j 95, j 96, j 97, j 98, j 99, j 100, j 101, j 102, j 103, j 104, j 105, j 106, j 107, j 108, j 109, j 110, j 111, j 112, j 113, j 114, j 115, j 116, j 117, j 118, j 119, j 120, j 121, j 122, j 123, j 124, j 125, j 126, j 127, j 128, j 129, j 130, j 131], [jb 0, jb 1, jb 2, jb 3, jb 4, ⟨((vs 5) + 1), false, .rows 4 [(.agg [.str r5_0_0, (.list 2 (r5_0_1.map E_api_Node)), (.list 6 (r5_0_2.map E_api_Link)), (.list 5 (r5_0_3.map E_api_Rule))])]⟩, ⟨((vs 6) + 1), false, .rows 4 [(.agg [.str r6_0_0, o69, o103, .nilS])]⟩, jb 7, jb 8, jb 9, jb 10, jb 11, jb 12, jb 13, jb 14, jb 15, jb 16, jb 17, jb 18, jb 19, jb 20, jb 21, jb 22, jb 23, jb 24, jb 25, jb 26, jb 27, jb 28, jb 29, jb 30, jb 31, jb 32, jb 33, jb 34, jb 35, jb 36, jb 37, jb 38, jb 39, jb 40, jb 41, jb 42, jb 43, jb 44, jb 45, jb 46, jb 47, jb 48, jb 49, jb 50, jb 51, jb 52, jb 53, jb 54, jb 55, jb 56, jb 57, jb 58, jb 59, jb 60, jb 61, jb 62, jb 63, jb 64, jb 65, jb 66, jb 67, jb 68, B69, jb 70, jb 71, jb 72, jb 73, jb 74, jb 75, jb 76, jb 77, jb 78, jb 79, jb 80, jb 81, jb 82, jb 83, jb 84, jb 85, jb 86, jb 87, jb 88, jb 89, jb 90, jb 91, jb 92, jb 93, jb 94, jb 95, jb 96, jb 97, jb 98, jb 99, jb 100, jb 101, jb 102, B103, jb 104, jb 105, jb 106, jb 107, jb 108, jb 109, jb 110, jb 111, jb 112, jb 113, jb 114, jb 115, jb 116, jb 117, jb 118, jb 119, jb 120, jb 121, jb 122, jb 123, jb 124, jb 125, jb 126, jb 127, jb 128, jb 129, B130, jb 131]⟩
def ref22_Clean_l2 (x0 : List T_api_Net) (x4 : Int) (x8 : Int) (r5_0_0 : ByteArray) (r5_0_1 : List T_api_Node) (r5_0_2 : List T_api_Link) (r5_0_3 : List T_api_Rule) (r6_0_0 : ByteArray) (r69 : List T_api_Node) (r103 : List T_api_Link) (r130 : List T_api_Net) (z : List T_api_Net) : Prop := ∀ o69 B69, Opt E_api_Node 69 2 o69 B69 r69 → ∀ o103 B103, Opt E_api_Link 103 6 o103 B103 r103 → ∀ o130 B130, Opt E_api_Net 130 4 o130 B130 r130 → ∀ j jb vs, W C F 13 0 (ref22_Clean_l2_s x0 x4 x8 r5_0_0 r5_0_1 r5_0_2 r5_0_3 r6_0_0 r69 r103 r130 o69 B69 o103 B103 o130 B130 j jb vs) (Ans C Tryz.f13 (.list 4 (z.map E_api_Net)))
noncomputable def ref22_Clean_l3_s (x0 : List T_api_Net) (x4 : Int) (x10 : Int) (r5_0_0 : ByteArray) (r5_0_1 : List T_api_Node) (r5_0_2 : List T_api_Link) (r5_0_3 : List T_api_Rule) (r6_0_0 : ByteArray) (r69 : List T_api_Node) (r103 : List T_api_Link) (r125 : List T_api_Rule) (r130 : List T_api_Net) (o69 : D) (B69 : Blk) (o103 : D) (B103 : Blk) (o125 : D) (B125 : Blk) (o130 : D) (B130 : Blk) (j : Nat → D) (jb : Nat → Blk) (vs : Nat → Nat) : Cf := cfAt Tryz.f13 [1, 1, 0, 1, 0, 0, 1, 0, 0, 1, 1, 1, 1, 0, 1, 0] ⟨[(.list 4 (x0.map E_api_Net)), j 1, j 2, o130, .int .i64 x4, (.pref 5 ((vs 5) + 1) 0 0), (.pref 6 ((vs 6) + 1) 0 0), j 7, j 8, j 9, .int .i64 x10, j 11, j 12, j 13, j 14, j 15, j 16, j 17, j 18, j 19, j 20, j 21, j 22, j 23, j 24, j 25, j 26, j 27, j 28, j 29, j 30, j 31, j 32, j 33, j 34, j 35, j 36, j 37, j 38, j 39, j 40, j 41, j 42, j 43, j 44, j 45, j 46, j 47, j 48, j 49, j 50, j 51, j 52, j 53, j 54, j 55, j 56, j 57, j 58, j 59, j 60, j 61, j 62, j 63, j 64, j 65, j 66, j 67, j 68, j 69, j 70, j 71, j 72, j 73, j 74, j 75, j 76, j 77, j 78, j 79, j 80, j 81, j 82, j 83, j 84, j 85, j 86, j 87, j 88, j 89, j 90, j 91, j 92, j 93, j 94, j 95, j 96, j 97, j 98, j 99, j 100, j 101, j 102, j 103, j 104, j 105, j 106, j 107, j 108, j 109, j 110, j 111, j 112, j 113, j 114, j 115, j 116, j 117, j 118, j 119, j 120, j 121, j 122, j 123, j 124, j 125, j 126, j 127, j 128, j 129, j 130, j 131], [jb 0, jb 1, jb 2, jb 3, jb 4, ⟨((vs 5) + 1), false, .rows 4 [(.agg [.str r5_0_0, (.list 2 (r5_0_1.map E_api_Node)), (.list 6 (r5_0_2.map E_api_Link)), (.list 5 (r5_0_3.map E_api_Rule))])]⟩, ⟨((vs 6) + 1), false, .rows 4 [(.agg [.str r6_0_0, o69, o103, o125])]⟩, jb 7, jb 8, jb 9, jb 10, jb 11, jb 12, jb 13, jb 14, jb 15, jb 16, jb 17, jb 18, jb 19, jb 20, jb 21, jb 22, jb 23, jb 24, jb 25, jb 26, jb 27, jb 28, jb 29, jb 30, jb 31, jb 32, jb 33, jb 34, jb 35, jb 36, jb 37, jb 38, jb 39, jb 40, jb 41, jb 42, jb 43, jb 44, jb 45, jb 46, jb 47, jb 48, jb 49, jb 50, jb 51, jb 52, jb 53, jb 54, jb 55, jb 56, jb 57, jb 58, jb 59, jb 60, jb 61, jb 62, jb 63, jb 64, jb 65, jb 66, jb 67, jb 68, B69, jb 70, jb 71, jb 72, jb 73, jb 74, jb 75, jb 76, jb 77, jb 78, jb 79, jb 80, jb 81, jb 82, jb 83, jb 84, jb 85, jb 86, jb 87, jb 88, jb 89, jb 90, jb 91, jb 92, jb 93, jb 94, jb 95, jb 96, jb 97, jb 98, jb 99, jb 100, jb 101, jb 102, B103, jb 104, jb 105, jb 106, jb 107, jb 108, jb 109, jb 110, jb 111, jb 112, jb 113, jb 114, jb 115, jb 116, jb 117, jb 118, jb 119, jb 120, jb 121, jb 122, jb 123, jb 124, B125, jb 126, jb 127, jb 128, jb 129, B130, jb 131]⟩
def ref22_Clean_l3 (x0 : List T_api_Net) (x4 : Int) (x10 : Int) (r5_0_0 : ByteArray) (r5_0_1 : List T_api_Node) (r5_0_2 : List T_api_Link) (r5_0_3 : List T_api_Rule) (r6_0_0 : ByteArray) (r69 : List T_api_Node) (r103 : List T_api_Link) (r125 : List T_api_Rule) (r130 : List T_api_Net) (z : List T_api_Net) : Prop := ∀ o69 B69, Opt E_api_Node 69 2 o69 B69 r69 → ∀ o103 B103, Opt E_api_Link 103 6 o103 B103 r103 → ∀ o125 B125, Opt E_api_Rule 125 5 o125 B125 r125 → ∀ o130 B130, Opt E_api_Net 130 4 o130 B130 r130 → ∀ j jb vs, W C F 13 0 (ref22_Clean_l3_s x0 x4 x10 r5_0_0 r5_0_1 r5_0_2 r5_0_3 r6_0_0 r69 r103 r125 r130 o69 B69 o103 B103 o125 B125 o130 B130 j jb vs) (Ans C Tryz.f13 (.list 4 (z.map E_api_Net)))
theorem ref22_Clean_l0_go {x0 : List T_api_Net} {x4 : Int} {r130 : List T_api_Net} {z : List T_api_Net} (H : ((x4 < (x0.length : Int) ∧ ((x4 < 3 ∧ (0 ≤ x4 ∧ (∃ e4 : ByteArray, (∃ e5 : List T_api_Node, (∃ e6 : List T_api_Link, (∃ e7 : List T_api_Rule, (x0.getD (x4).toNat (ByteArray.empty, [], [], []) = (e4, e5, e6, e7) ∧ (∃ c9 : ByteArray, (ref22_short_R e4 c9 ∧ (ref22_Clean_l1 x0 x4 0 e4 e5 e6 e7 c9 ([] : List T_api_Node) r130 z)))))))))) ∨ (¬ x4 < 3 ∧ (z = r130)))) ∨ (¬ x4 < (x0.length : Int) ∧ (z = r130)))) : ref22_Clean_l0 x0 x4 r130 z := by
 intro o130 B130 ho130 j jb vs
 refine W.adv 1 ?_
 refine W.adv 5 ?_
 refine W.opS (OpIs.ln (n := (x0.map E_api_Net).length) (m := x0.length) (by kernel_rfl) (by rw [List.length_map])) ?_
 refine W.adv 2 ?_
 rcases H with ⟨h1, H⟩ | ⟨h1, H⟩
 ·refine W.guard true (w := ((decide (x4 < (x0.length : Int))) == true)) (by kernel_rfl) (congrArg (fun b => b == true) (decide_eq_true h1)) ?_
  refine W.adv 1 ?_
  refine W.guard true (w := ((decide (x4 < (x0.length : Int))) == true)) (by kernel_rfl) (congrArg (fun b => b == true) (decide_eq_true h1)) ?_
  refine W.adv 1 ?_
  refine W.opS (OpIs.pk true (t := (decide (x4 < (x0.length : Int)))) (x := (.bool (decide (x4 < 3)))) (y := (.bool false)) (by kernel_rfl) (decide_eq_true h1)) ?_
  refine W.adv 2 ?_
  rcases H with ⟨h2, H⟩ | ⟨h2, H⟩
  ·refine W.cond true (w := (decide (x4 < 3))) (by kernel_rfl) (decide_eq_true h2) ?_
   refine W.adv 8 ?_
   obtain ⟨h3, H⟩ := H
   obtain ⟨e4, e5, e6, e7, he8, H⟩ := H
   refine W.opS (OpIs.ixE (enc := E_api_Net) (n := 4) (k' := .i64) (L := x0) (i := x4) (d0 := (ByteArray.empty, [], [], [])) (x := (e4, e5, e6, e7)) (by kernel_rfl) h3 h1 he8) ?_
   refine W.adv 2 ?_
   refine W.opH (OpIs.stV (b := 5) (v := ((jb 5).ver + 1)) (i := 0) (off := 0) (w := ((jb 5).ver + 1)) (n := 4) (s := 4) (xs := [(.agg [.str ⟨#[]⟩, .nilS, .nilS, .nilS])]) (ys := [(.agg [.str e4, (.list 2 (e5.map E_api_Node)), (.list 6 (e6.map E_api_Link)), (.list 5 (e7.map E_api_Rule))])]) (d := (.agg [.str ⟨#[]⟩, .nilS, .nilS, .nilS])) (y := (.agg [.str e4, (.list 2 (e5.map E_api_Node)), (.list 6 (e6.map E_api_Link)), (.list 5 (e7.map E_api_Rule))])) (by kernel_rfl) rfl (by kernel_rfl) (by kernel_rfl) (Nat.le_of_ble_eq_true (by kernel_rfl)) (by kernel_rfl) (by kernel_rfl)) ?_
   refine W.adv 5 ?_
   refine W.opS (OpIs.ldV (b := 5) (v := ((jb 5).ver + 1)) (i := 0) (off := 0) (w := ((jb 5).ver + 1)) (n := 4) (s := 1) (fz := false) (a := false) (xs := [(.agg [.str e4, (.list 2 (e5.map E_api_Node)), (.list 6 (e6.map E_api_Link)), (.list 5 (e7.map E_api_Rule))])]) (r := (.str e4)) (by kernel_rfl) rfl (by kernel_rfl)) ?_
   obtain ⟨c9, hc10, H⟩ := H
   refine W.callR (g := 14) (ds := [.str e4]) (es := [.str e4]) (r := (.str c9)) (by kernel_rfl) (by kernel_rfl) (Ic.args hc10 (by kernel_rfl)) (by kernel_rfl) ?_
   refine W.adv 2 ?_
   refine W.opH (OpIs.stV (b := 6) (v := ((jb 6).ver + 1)) (i := 0) (off := 0) (w := ((jb 6).ver + 1)) (n := 4) (s := 4) (xs := [(.agg [.str ⟨#[]⟩, .nilS, .nilS, .nilS])]) (ys := [(.agg [.str c9, .nilS, .nilS, .nilS])]) (d := (.agg [.str ⟨#[]⟩, .nilS, .nilS, .nilS])) (y := (.agg [.str c9, .nilS, .nilS, .nilS])) (by kernel_rfl) rfl (by kernel_rfl) (by kernel_rfl) (Nat.le_of_ble_eq_true (by kernel_rfl)) (by kernel_rfl) (by kernel_rfl)) ?_
   refine W.adv 9 ?_
   exact W.to_loop (P := ref22_Clean_l1_s x0 x4 0 e4 e5 e6 e7 c9 ([] : List T_api_Node) r130 .nilS (jb 69) o130 B130) (H _ _ Opt.nil _ _ ho130) (by kernel_rfl)
  ·refine W.cond false (w := (decide (x4 < 3))) (by kernel_rfl) (decide_eq_false h2) ?_
   refine W.adv 12 ?_
   rcases ho130 with ⟨rfl, hL130⟩ | ⟨v130, rfl, rfl⟩
   ·subst hL130
    exact W.fin (x := .ret) (by kernel_rfl) (Ans.of (d := .nilS) (d' := .nilS) (e' := (.list 4 (([] : List T_api_Net).map E_api_Net))) (by kernel_rfl) (by kernel_rfl) (by kernel_rfl) (by rw [H]))
   ·exact W.fin (x := .ret) (by kernel_rfl) (Ans.of (d := (.sref 130 (v130 + 1) 4 0 r130.length)) (d' := (.list 4 (r130.map E_api_Net))) (e' := (.list 4 (r130.map E_api_Net))) (by kernel_rfl) ((congrArg (fun h => reify h DEPTH (.sref 130 (v130 + 1) 4 0 r130.length)) (tidy_ver (b := 130) (v := v130) (fz := false) (y := .rows 4 (r130.map E_api_Net)) (by kernel_rfl))).trans (rf_fullE (enc := E_api_Net) E_api_Net_t (b := 130) (v := (v130 + 1)) (w := (v130 + 1)) (fz := false) (xs := r130) (by kernel_rfl) rfl rfl)) (by kernel_rfl) (by rw [H]))
 ·refine W.guard false (w := ((decide (x4 < (x0.length : Int))) == true)) (by kernel_rfl) (congrArg (fun b => b == true) (decide_eq_false h1)) ?_
  refine W.guard false (w := ((decide (x4 < (x0.length : Int))) == true)) (by kernel_rfl) (congrArg (fun b => b == true) (decide_eq_false h1)) ?_
  refine W.opS (OpIs.pk false (t := (decide (x4 < (x0.length : Int)))) (x := (.tuple [])) (y := (.bool false)) (by kernel_rfl) (decide_eq_false h1)) ?_
  refine W.adv 15 ?_
  rcases ho130 with ⟨rfl, hL130⟩ | ⟨v130, rfl, rfl⟩
  ·subst hL130
   exact W.fin (x := .ret) (by kernel_rfl) (Ans.of (d := .nilS) (d' := .nilS) (e' := (.list 4 (([] : List T_api_Net).map E_api_Net))) (by kernel_rfl) (by kernel_rfl) (by kernel_rfl) (by rw [H]))
  ·exact W.fin (x := .ret) (by kernel_rfl) (Ans.of (d := (.sref 130 (v130 + 1) 4 0 r130.length)) (d' := (.list 4 (r130.map E_api_Net))) (e' := (.list 4 (r130.map E_api_Net))) (by kernel_rfl) ((congrArg (fun h => reify h DEPTH (.sref 130 (v130 + 1) 4 0 r130.length)) (tidy_ver (b := 130) (v := v130) (fz := false) (y := .rows 4 (r130.map E_api_Net)) (by kernel_rfl))).trans (rf_fullE (enc := E_api_Net) E_api_Net_t (b := 130) (v := (v130 + 1)) (w := (v130 + 1)) (fz := false) (xs := r130) (by kernel_rfl) rfl rfl)) (by kernel_rfl) (by rw [H]))
theorem ref22_Clean_l1_go {x0 : List T_api_Net} {x4 : Int} {x7 : Int} {r5_0_0 : ByteArray} {r5_0_1 : List T_api_Node} {r5_0_2 : List T_api_Link} {r5_0_3 : List T_api_Rule} {r6_0_0 : ByteArray} {r69 : List T_api_Node} {r130 : List T_api_Net} {z : List T_api_Net} (H : ((x7 < (r5_0_1.length : Int) ∧ ((x7 < 5 ∧ (0 ≤ x7 ∧ (∃ e14 : ByteArray, (∃ e15 : List T_api_Prefix, (r5_0_1.getD (x7).toNat (ByteArray.empty, []) = (e14, e15) ∧ (∃ c17 : ByteArray, (ref22_short_R e14 c17 ∧ (∃ e19 : ByteArray, (∃ e20 : List T_api_Prefix, (r5_0_1.getD (x7).toNat (ByteArray.empty, []) = (e19, e20) ∧ (∃ e22 : ByteArray, (∃ e23 : List T_api_Prefix, (r5_0_1.getD (x7).toNat (ByteArray.empty, []) = (e22, e23) ∧ (0 ≤ (mn (e23.length : Int) 3) ∧ ((mn (e23.length : Int) 3) ≤ (e20.length : Int) ∧ (((e20.take (mn (e23.length : Int) 3).toNat).length + 192) * (16 + 1) ≤ 70368744177664 ∧ (∃ y27 : List T_api_Prefix, y27 = (e20.take (mn (e23.length : Int) 3).toNat) ∧ ((r69.length + 1 + 192) * (40 + 1) ≤ 70368744177664 ∧ (∃ y31 : List T_api_Node, y31 = r69 ++ [(c17, y27)] ∧ (ref22_Clean_l1 x0 x4 (wi (x7 + 1)) r5_0_0 r5_0_1 r5_0_2 r5_0_3 r6_0_0 y31 r130 z)))))))))))))))))))) ∨ (¬ x7 < 5 ∧ (ref22_Clean_l2 x0 x4 0 r5_0_0 r5_0_1 r5_0_2 r5_0_3 r6_0_0 r69 ([] : List T_api_Link) r130 z)))) ∨ (¬ x7 < (r5_0_1.length : Int) ∧ (ref22_Clean_l2 x0 x4 0 r5_0_0 r5_0_1 r5_0_2 r5_0_3 r6_0_0 r69 ([] : List T_api_Link) r130 z)))) : ref22_Clean_l1 x0 x4 x7 r5_0_0 r5_0_1 r5_0_2 r5_0_3 r6_0_0 r69 r130 z := by
 intro o69 B69 ho69 o130 B130 ho130 j jb vs
 refine W.adv 1 ?_
 refine W.adv 5 ?_
 refine W.opS (OpIs.ldV (b := 5) (v := ((vs 5) + 1)) (i := 0) (off := 1) (w := ((vs 5) + 1)) (n := 4) (s := 1) (fz := false) (a := false) (xs := [(.agg [.str r5_0_0, (.list 2 (r5_0_1.map E_api_Node)), (.list 6 (r5_0_2.map E_api_Link)), (.list 5 (r5_0_3.map E_api_Rule))])]) (r := (.list 2 (r5_0_1.map E_api_Node))) (by kernel_rfl) rfl (by kernel_rfl)) ?_
 refine W.opS (OpIs.ln (n := (r5_0_1.map E_api_Node).length) (m := r5_0_1.length) (by kernel_rfl) (by rw [List.length_map])) ?_
 refine W.adv 2 ?_
 rcases H with ⟨h11, H⟩ | ⟨h11, H⟩
 ·refine W.guard true (w := ((decide (x7 < (r5_0_1.length : Int))) == true)) (by kernel_rfl) (congrArg (fun b => b == true) (decide_eq_true h11)) ?_
  refine W.adv 1 ?_
  refine W.guard true (w := ((decide (x7 < (r5_0_1.length : Int))) == true)) (by kernel_rfl) (congrArg (fun b => b == true) (decide_eq_true h11)) ?_
  refine W.adv 1 ?_
  refine W.opS (OpIs.pk true (t := (decide (x7 < (r5_0_1.length : Int)))) (x := (.bool (decide (x7 < 5)))) (y := (.bool false)) (by kernel_rfl) (decide_eq_true h11)) ?_
  refine W.adv 2 ?_
  rcases H with ⟨h12, H⟩ | ⟨h12, H⟩
  ·refine W.cond true (w := (decide (x7 < 5))) (by kernel_rfl) (decide_eq_true h12) ?_
   refine W.adv 6 ?_
   refine W.opS (OpIs.ldV (b := 6) (v := ((vs 6) + 1)) (i := 0) (off := 1) (w := ((vs 6) + 1)) (n := 4) (s := 1) (fz := false) (a := false) (xs := [(.agg [.str r6_0_0, o69, .nilS, .nilS])]) (r := o69) (by kernel_rfl) rfl (by kernel_rfl)) ?_
   refine W.adv 1 ?_
   refine W.opS (OpIs.ldV (b := 5) (v := ((vs 5) + 1)) (i := 0) (off := 1) (w := ((vs 5) + 1)) (n := 4) (s := 1) (fz := false) (a := false) (xs := [(.agg [.str r5_0_0, (.list 2 (r5_0_1.map E_api_Node)), (.list 6 (r5_0_2.map E_api_Link)), (.list 5 (r5_0_3.map E_api_Rule))])]) (r := (.list 2 (r5_0_1.map E_api_Node))) (by kernel_rfl) rfl (by kernel_rfl)) ?_
   refine W.adv 1 ?_
   obtain ⟨h13, H⟩ := H
   obtain ⟨e14, e15, he16, H⟩ := H
   refine W.opS (OpIs.ixE (enc := E_api_Node) (n := 2) (k' := .i64) (L := r5_0_1) (i := x7) (d0 := (ByteArray.empty, [])) (x := (e14, e15)) (by kernel_rfl) h13 h11 he16) ?_
   refine W.adv 2 ?_
   obtain ⟨c17, hc18, H⟩ := H
   refine W.callR (g := 14) (ds := [.str e14]) (es := [.str e14]) (r := (.str c17)) (by kernel_rfl) (by kernel_rfl) (Ic.args hc18 (by kernel_rfl)) (by kernel_rfl) ?_
   refine W.adv 2 ?_
   refine W.opS (OpIs.ldV (b := 5) (v := ((vs 5) + 1)) (i := 0) (off := 1) (w := ((vs 5) + 1)) (n := 4) (s := 1) (fz := false) (a := false) (xs := [(.agg [.str r5_0_0, (.list 2 (r5_0_1.map E_api_Node)), (.list 6 (r5_0_2.map E_api_Link)), (.list 5 (r5_0_3.map E_api_Rule))])]) (r := (.list 2 (r5_0_1.map E_api_Node))) (by kernel_rfl) rfl (by kernel_rfl)) ?_
   refine W.adv 1 ?_
   obtain ⟨e19, e20, he21, H⟩ := H
   refine W.opS (OpIs.ixE (enc := E_api_Node) (n := 2) (k' := .i64) (L := r5_0_1) (i := x7) (d0 := (ByteArray.empty, [])) (x := (e19, e20)) (by kernel_rfl) h13 h11 he21) ?_
   refine W.adv 3 ?_
   refine W.opS (OpIs.ldV (b := 5) (v := ((vs 5) + 1)) (i := 0) (off := 1) (w := ((vs 5) + 1)) (n := 4) (s := 1) (fz := false) (a := false) (xs := [(.agg [.str r5_0_0, (.list 2 (r5_0_1.map E_api_Node)), (.list 6 (r5_0_2.map E_api_Link)), (.list 5 (r5_0_3.map E_api_Rule))])]) (r := (.list 2 (r5_0_1.map E_api_Node))) (by kernel_rfl) rfl (by kernel_rfl)) ?_
   refine W.adv 1 ?_
   obtain ⟨e22, e23, he24, H⟩ := H
   refine W.opS (OpIs.ixE (enc := E_api_Node) (n := 2) (k' := .i64) (L := r5_0_1) (i := x7) (d0 := (ByteArray.empty, [])) (x := (e22, e23)) (by kernel_rfl) h13 h11 he24) ?_
   refine W.adv 2 ?_
   refine W.opS (OpIs.ln (n := (e23.map E_api_Prefix).length) (m := e23.length) (by kernel_rfl) (by rw [List.length_map])) ?_
   refine W.adv 1 ?_
   obtain ⟨h25, h26, H⟩ := H
   refine W.opS (OpIs.slE_hi (enc := E_api_Prefix) (n := 2) (k' := .i64) (L := e20) (i := (mn (e23.length : Int) 3)) (by kernel_rfl) h25 h26) ?_
   obtain ⟨h30, H⟩ := H
   obtain ⟨y27, hy28, H⟩ := H
   have ln29 : (e20.take (mn (e23.length : Int) 3).toNat).length = y27.length := by rw [hy28] <;> rfl
   refine W.opH (OpIs.apENil (enc := E_api_Prefix) (y := (.list 2 ((e20.take (mn (e23.length : Int) 3).toNat).map E_api_Prefix))) (B := none) (n := 16) (d := 66) (v := (jb 66).ver) (m := 2) (ys := (e20.take (mn (e23.length : Int) 3).toNat)) (by kernel_rfl) (by kernel_rfl) hy28 h30) ?_
   refine W.adv 1 ?_
   refine W.opF (OpIs.bs (t := 29) (len := 1) (is := [0]) (vs := [(.agg [.str c17, (.sref 66 ((jb 66).ver + 1) 2 0 (e20.take (mn (e23.length : Int) 3).toNat).length)])]) (es := [(.agg [.str c17, (.list 2 (y27.map E_api_Prefix))])]) (d := (.lit (.list 2 [(.agg [.str c17, (.list 2 (y27.map E_api_Prefix))])]))) (by kernel_rfl) (rf_cons (rf_agg (rf_cons (by kernel_rfl) (rf_cons (rf_fullE (enc := E_api_Prefix) E_api_Prefix_t (b := 66) (v := ((jb 66).ver + 1)) (w := ((jb 66).ver + 1)) (fz := false) (xs := y27) (by kernel_rfl) rfl ln29) rf_nil))) rf_nil) (by kernel_rfl) rfl) ?_
   rcases ho69 with ⟨rfl, hL69⟩ | ⟨v69, rfl, rfl⟩
   ·subst hL69
    obtain ⟨h34, H⟩ := H
    obtain ⟨y31, hy32, H⟩ := H
    have ln33 : 1 = y31.length := by rw [hy32] <;> rfl
    refine W.opH (OpIs.apENil (enc := E_api_Node) (y := (.lit (.list 2 [(.agg [.str c17, (.list 2 (y27.map E_api_Prefix))])]))) (B := none) (n := 40) (d := 69) (v := B69.ver) (m := 2) (ys := [(c17, y27)]) (by kernel_rfl) (by kernel_rfl) (hy32.trans (List.nil_append _)) (by first | (simp; done) | (simp at h34 ⊢; omega) | omega)) ?_
    refine W.adv 1 ?_
    refine W.opH (OpIs.stV (b := 6) (v := ((vs 6) + 1)) (i := 0) (off := 1) (w := ((vs 6) + 1)) (n := 4) (s := 1) (xs := [(.agg [.str r6_0_0, .nilS, .nilS, .nilS])]) (ys := [(.agg [.str r6_0_0, (.sref 69 (B69.ver + 1) 2 0 1), .nilS, .nilS])]) (d := (.agg [.str r6_0_0, .nilS, .nilS, .nilS])) (y := (.sref 69 (B69.ver + 1) 2 0 1)) (by kernel_rfl) rfl (by kernel_rfl) (by kernel_rfl) (Nat.le_of_ble_eq_true (by kernel_rfl)) (by kernel_rfl) (by kernel_rfl)) ?_
    refine W.adv 9 ?_
    exact W.to_loop (P := ref22_Clean_l1_s x0 x4 (wi (x7 + 1)) r5_0_0 r5_0_1 r5_0_2 r5_0_3 r6_0_0 y31 r130 (.sref 69 (B69.ver + 1) 2 0 1) (⟨(B69.ver + 1), false, .rows 2 (y31.map E_api_Node)⟩) o130 B130) (H _ _ (Opt.row (w := B69.ver) (by first | rfl | omega) ln33) _ _ ho130) (by kernel_rfl)
   ·obtain ⟨h34, H⟩ := H
    obtain ⟨y31, hy32, H⟩ := H
    have ln33 : (r69.length + 1) = y31.length := by rw [hy32, List.length_append] <;> rfl
    refine W.opK (OpIs.apERow (enc := E_api_Node) (y := (.lit (.list 2 [(.agg [.str c17, (.list 2 (y27.map E_api_Prefix))])]))) (n := 40) (d := 69) (dv := (v69 + 1)) (b := 69) (v := (v69 + 1)) (w := (v69 + 1)) (len := r69.length) (m := 2) (xs := r69) (ys := [(c17, y27)]) (by kernel_rfl) (by kernel_rfl) hy32 rfl rfl h34) ?_
    refine W.adv 1 ?_
    refine W.opH (OpIs.stV (b := 6) (v := ((vs 6) + 1)) (i := 0) (off := 1) (w := ((vs 6) + 1)) (n := 4) (s := 1) (xs := [(.agg [.str r6_0_0, (.sref 69 (v69 + 1) 2 0 r69.length), .nilS, .nilS])]) (ys := [(.agg [.str r6_0_0, (.sref 69 ((v69 + 1) + 1) 2 0 (r69.length + 1)), .nilS, .nilS])]) (d := (.agg [.str r6_0_0, (.sref 69 (v69 + 1) 2 0 r69.length), .nilS, .nilS])) (y := (.sref 69 ((v69 + 1) + 1) 2 0 (r69.length + 1))) (by kernel_rfl) rfl (by kernel_rfl) (by kernel_rfl) (Nat.le_of_ble_eq_true (by kernel_rfl)) (by kernel_rfl) (by kernel_rfl)) ?_
    refine W.adv 9 ?_
    exact W.to_loop (P := ref22_Clean_l1_s x0 x4 (wi (x7 + 1)) r5_0_0 r5_0_1 r5_0_2 r5_0_3 r6_0_0 y31 r130 (.sref 69 ((v69 + 1) + 1) 2 0 (r69.length + 1)) (⟨((v69 + 1) + 1), false, .rows 2 (y31.map E_api_Node)⟩) o130 B130) (H _ _ (Opt.row (w := (v69 + 1)) (by first | rfl | omega) ln33) _ _ ho130) (by kernel_rfl)
  ·refine W.cond false (w := (decide (x7 < 5))) (by kernel_rfl) (decide_eq_false h12) ?_
   refine W.adv 12 ?_
   exact W.to_loop (P := ref22_Clean_l2_s x0 x4 0 r5_0_0 r5_0_1 r5_0_2 r5_0_3 r6_0_0 r69 ([] : List T_api_Link) r130 o69 B69 .nilS (jb 103) o130 B130) (H _ _ ho69 _ _ Opt.nil _ _ ho130) (by kernel_rfl)
 ·refine W.guard false (w := ((decide (x7 < (r5_0_1.length : Int))) == true)) (by kernel_rfl) (congrArg (fun b => b == true) (decide_eq_false h11)) ?_
  refine W.guard false (w := ((decide (x7 < (r5_0_1.length : Int))) == true)) (by kernel_rfl) (congrArg (fun b => b == true) (decide_eq_false h11)) ?_
  refine W.opS (OpIs.pk false (t := (decide (x7 < (r5_0_1.length : Int)))) (x := (.tuple [])) (y := (.bool false)) (by kernel_rfl) (decide_eq_false h11)) ?_
  refine W.adv 15 ?_
  exact W.to_loop (P := ref22_Clean_l2_s x0 x4 0 r5_0_0 r5_0_1 r5_0_2 r5_0_3 r6_0_0 r69 ([] : List T_api_Link) r130 o69 B69 .nilS (jb 103) o130 B130) (H _ _ ho69 _ _ Opt.nil _ _ ho130) (by kernel_rfl)
theorem ref22_Clean_l2_go {x0 : List T_api_Net} {x4 : Int} {x8 : Int} {r5_0_0 : ByteArray} {r5_0_1 : List T_api_Node} {r5_0_2 : List T_api_Link} {r5_0_3 : List T_api_Rule} {r6_0_0 : ByteArray} {r69 : List T_api_Node} {r103 : List T_api_Link} {r130 : List T_api_Net} {z : List T_api_Net} (H : ((x8 < (r5_0_2.length : Int) ∧ ((x8 < 8 ∧ (0 ≤ x8 ∧ (∃ e38 : ByteArray, (∃ e39 : ByteArray, (∃ e40 : ByteArray, (∃ e41 : Bool, (∃ e42 : List Int, (∃ e43 : List Int, (r5_0_2.getD (x8).toNat (ByteArray.empty, ByteArray.empty, ByteArray.empty, false, [], []) = (e38, e39, e40, e41, e42, e43) ∧ (∃ c45 : ByteArray, (ref22_short_R e38 c45 ∧ (∃ c47 : ByteArray, (ref22_short_R e39 c47 ∧ (∃ c49 : ByteArray, (ref22_short_R e40 c49 ∧ (∃ c51_0 : Bool, (∃ c51_1 : List Int, (∃ c51_2 : List Int, (ref08_Clean_R e41 e42 e43 1 c51_0 c51_1 c51_2 ∧ ((r103.length + 1 + 192) * (104 + 1) ≤ 70368744177664 ∧ (∃ y53 : List T_api_Link, y53 = r103 ++ [(c45, c47, c49, c51_0, c51_1, c51_2)] ∧ (ref22_Clean_l2 x0 x4 (wi (x8 + 1)) r5_0_0 r5_0_1 r5_0_2 r5_0_3 r6_0_0 r69 y53 r130 z)))))))))))))))))))))) ∨ (¬ x8 < 8 ∧ (ref22_Clean_l3 x0 x4 0 r5_0_0 r5_0_1 r5_0_2 r5_0_3 r6_0_0 r69 r103 ([] : List T_api_Rule) r130 z)))) ∨ (¬ x8 < (r5_0_2.length : Int) ∧ (ref22_Clean_l3 x0 x4 0 r5_0_0 r5_0_1 r5_0_2 r5_0_3 r6_0_0 r69 r103 ([] : List T_api_Rule) r130 z)))) : ref22_Clean_l2 x0 x4 x8 r5_0_0 r5_0_1 r5_0_2 r5_0_3 r6_0_0 r69 r103 r130 z := by
 intro o69 B69 ho69 o103 B103 ho103 o130 B130 ho130 j jb vs
 refine W.adv 1 ?_
 refine W.adv 5 ?_
 refine W.opS (OpIs.ldV (b := 5) (v := ((vs 5) + 1)) (i := 0) (off := 2) (w := ((vs 5) + 1)) (n := 4) (s := 1) (fz := false) (a := false) (xs := [(.agg [.str r5_0_0, (.list 2 (r5_0_1.map E_api_Node)), (.list 6 (r5_0_2.map E_api_Link)), (.list 5 (r5_0_3.map E_api_Rule))])]) (r := (.list 6 (r5_0_2.map E_api_Link))) (by kernel_rfl) rfl (by kernel_rfl)) ?_
 refine W.opS (OpIs.ln (n := (r5_0_2.map E_api_Link).length) (m := r5_0_2.length) (by kernel_rfl) (by rw [List.length_map])) ?_
 refine W.adv 2 ?_
 rcases H with ⟨h35, H⟩ | ⟨h35, H⟩
 ·refine W.guard true (w := ((decide (x8 < (r5_0_2.length : Int))) == true)) (by kernel_rfl) (congrArg (fun b => b == true) (decide_eq_true h35)) ?_
  refine W.adv 1 ?_
  refine W.guard true (w := ((decide (x8 < (r5_0_2.length : Int))) == true)) (by kernel_rfl) (congrArg (fun b => b == true) (decide_eq_true h35)) ?_
  refine W.adv 1 ?_
  refine W.opS (OpIs.pk true (t := (decide (x8 < (r5_0_2.length : Int)))) (x := (.bool (decide (x8 < 8)))) (y := (.bool false)) (by kernel_rfl) (decide_eq_true h35)) ?_
  refine W.adv 2 ?_
  rcases H with ⟨h36, H⟩ | ⟨h36, H⟩
  ·refine W.cond true (w := (decide (x8 < 8))) (by kernel_rfl) (decide_eq_true h36) ?_
   refine W.adv 7 ?_
   refine W.opS (OpIs.ldV (b := 5) (v := ((vs 5) + 1)) (i := 0) (off := 2) (w := ((vs 5) + 1)) (n := 4) (s := 1) (fz := false) (a := false) (xs := [(.agg [.str r5_0_0, (.list 2 (r5_0_1.map E_api_Node)), (.list 6 (r5_0_2.map E_api_Link)), (.list 5 (r5_0_3.map E_api_Rule))])]) (r := (.list 6 (r5_0_2.map E_api_Link))) (by kernel_rfl) rfl (by kernel_rfl)) ?_
   refine W.adv 1 ?_
   obtain ⟨h37, H⟩ := H
   obtain ⟨e38, e39, e40, e41, e42, e43, he44, H⟩ := H
   refine W.opS (OpIs.ixE (enc := E_api_Link) (n := 6) (k' := .i64) (L := r5_0_2) (i := x8) (d0 := (ByteArray.empty, ByteArray.empty, ByteArray.empty, false, [], [])) (x := (e38, e39, e40, e41, e42, e43)) (by kernel_rfl) h37 h35 he44) ?_
   refine W.adv 2 ?_
   refine W.opH (OpIs.stV (b := 9) (v := ((jb 9).ver + 1)) (i := 0) (off := 0) (w := ((jb 9).ver + 1)) (n := 6) (s := 6) (xs := [(.agg [.str ⟨#[]⟩, .str ⟨#[]⟩, .str ⟨#[]⟩, .bool false, .nilS, .nilS])]) (ys := [(.agg [.str e38, .str e39, .str e40, .bool e41, .ints .u64 e42, .ints .u64 e43])]) (d := (.agg [.str ⟨#[]⟩, .str ⟨#[]⟩, .str ⟨#[]⟩, .bool false, .nilS, .nilS])) (y := (.agg [.str e38, .str e39, .str e40, .bool e41, .ints .u64 e42, .ints .u64 e43])) (by kernel_rfl) rfl (by kernel_rfl) (by kernel_rfl) (Nat.le_of_ble_eq_true (by kernel_rfl)) (by kernel_rfl) (by kernel_rfl)) ?_
   refine W.adv 4 ?_
   refine W.opS (OpIs.ldV (b := 6) (v := ((vs 6) + 1)) (i := 0) (off := 2) (w := ((vs 6) + 1)) (n := 4) (s := 1) (fz := false) (a := false) (xs := [(.agg [.str r6_0_0, o69, o103, .nilS])]) (r := o103) (by kernel_rfl) rfl (by kernel_rfl)) ?_
   refine W.adv 1 ?_
   refine W.opS (OpIs.ldV (b := 9) (v := ((jb 9).ver + 1)) (i := 0) (off := 0) (w := ((jb 9).ver + 1)) (n := 6) (s := 1) (fz := false) (a := false) (xs := [(.agg [.str e38, .str e39, .str e40, .bool e41, .ints .u64 e42, .ints .u64 e43])]) (r := (.str e38)) (by kernel_rfl) rfl (by kernel_rfl)) ?_
   obtain ⟨c45, hc46, H⟩ := H
   refine W.callR (g := 14) (ds := [.str e38]) (es := [.str e38]) (r := (.str c45)) (by kernel_rfl) (by kernel_rfl) (Ic.args hc46 (by kernel_rfl)) (by kernel_rfl) ?_
   refine W.adv 1 ?_
   refine W.opS (OpIs.ldV (b := 9) (v := ((jb 9).ver + 1)) (i := 0) (off := 1) (w := ((jb 9).ver + 1)) (n := 6) (s := 1) (fz := false) (a := false) (xs := [(.agg [.str e38, .str e39, .str e40, .bool e41, .ints .u64 e42, .ints .u64 e43])]) (r := (.str e39)) (by kernel_rfl) rfl (by kernel_rfl)) ?_
   obtain ⟨c47, hc48, H⟩ := H
   refine W.callR (g := 14) (ds := [.str e39]) (es := [.str e39]) (r := (.str c47)) (by kernel_rfl) (by kernel_rfl) (Ic.args hc48 (by kernel_rfl)) (by kernel_rfl) ?_
   refine W.adv 1 ?_
   refine W.opS (OpIs.ldV (b := 9) (v := ((jb 9).ver + 1)) (i := 0) (off := 2) (w := ((jb 9).ver + 1)) (n := 6) (s := 1) (fz := false) (a := false) (xs := [(.agg [.str e38, .str e39, .str e40, .bool e41, .ints .u64 e42, .ints .u64 e43])]) (r := (.str e40)) (by kernel_rfl) rfl (by kernel_rfl)) ?_
   obtain ⟨c49, hc50, H⟩ := H
   refine W.callR (g := 14) (ds := [.str e40]) (es := [.str e40]) (r := (.str c49)) (by kernel_rfl) (by kernel_rfl) (Ic.args hc50 (by kernel_rfl)) (by kernel_rfl) ?_
   refine W.adv 1 ?_
   refine W.opS (OpIs.ldV (b := 9) (v := ((jb 9).ver + 1)) (i := 0) (off := 3) (w := ((jb 9).ver + 1)) (n := 6) (s := 3) (fz := false) (a := true) (xs := [(.agg [.str e38, .str e39, .str e40, .bool e41, .ints .u64 e42, .ints .u64 e43])]) (r := (.agg [.bool e41, .ints .u64 e42, .ints .u64 e43])) (by kernel_rfl) rfl (by kernel_rfl)) ?_
   obtain ⟨c51_0, c51_1, c51_2, hc52, H⟩ := H
   refine W.callR (g := 24) (ds := [(.agg [.bool e41, .ints .u64 e42, .ints .u64 e43]), .int .i64 1]) (es := [(.agg [.bool e41, .ints .u64 e42, .ints .u64 e43]), .int .i64 1]) (r := (.agg [.bool c51_0, .ints .u64 c51_1, .ints .u64 c51_2])) (by kernel_rfl) (by kernel_rfl) (Ic.args hc52 (by kernel_rfl)) (by kernel_rfl) ?_
   refine W.adv 2 ?_
   rcases ho103 with ⟨rfl, hL103⟩ | ⟨v103, rfl, rfl⟩
   ·subst hL103
    obtain ⟨h56, H⟩ := H
    obtain ⟨y53, hy54, H⟩ := H
    have ln55 : 1 = y53.length := by rw [hy54] <;> rfl
    refine W.opH (OpIs.apENil (enc := E_api_Link) (y := (.lit (.list 6 [(.agg [.str c45, .str c47, .str c49, .bool c51_0, .ints .u64 c51_1, .ints .u64 c51_2])]))) (B := none) (n := 104) (d := 103) (v := B103.ver) (m := 6) (ys := [(c45, c47, c49, c51_0, c51_1, c51_2)]) (by kernel_rfl) (by kernel_rfl) (hy54.trans (List.nil_append _)) (by first | (simp; done) | (simp at h56 ⊢; omega) | omega)) ?_
    refine W.adv 1 ?_
    refine W.opH (OpIs.stV (b := 6) (v := ((vs 6) + 1)) (i := 0) (off := 2) (w := ((vs 6) + 1)) (n := 4) (s := 1) (xs := [(.agg [.str r6_0_0, o69, .nilS, .nilS])]) (ys := [(.agg [.str r6_0_0, o69, (.sref 103 (B103.ver + 1) 6 0 1), .nilS])]) (d := (.agg [.str r6_0_0, o69, .nilS, .nilS])) (y := (.sref 103 (B103.ver + 1) 6 0 1)) (by kernel_rfl) rfl (by kernel_rfl) (by kernel_rfl) (Nat.le_of_ble_eq_true (by kernel_rfl)) (by kernel_rfl) (by kernel_rfl)) ?_
    refine W.adv 9 ?_
    exact W.to_loop (P := ref22_Clean_l2_s x0 x4 (wi (x8 + 1)) r5_0_0 r5_0_1 r5_0_2 r5_0_3 r6_0_0 r69 y53 r130 o69 B69 (.sref 103 (B103.ver + 1) 6 0 1) (⟨(B103.ver + 1), false, .rows 6 (y53.map E_api_Link)⟩) o130 B130) (H _ _ ho69 _ _ (Opt.row (w := B103.ver) (by first | rfl | omega) ln55) _ _ ho130) (by kernel_rfl)
   ·obtain ⟨h56, H⟩ := H
    obtain ⟨y53, hy54, H⟩ := H
    have ln55 : (r103.length + 1) = y53.length := by rw [hy54, List.length_append] <;> rfl
    refine W.opK (OpIs.apERow (enc := E_api_Link) (y := (.lit (.list 6 [(.agg [.str c45, .str c47, .str c49, .bool c51_0, .ints .u64 c51_1, .ints .u64 c51_2])]))) (n := 104) (d := 103) (dv := (v103 + 1)) (b := 103) (v := (v103 + 1)) (w := (v103 + 1)) (len := r103.length) (m := 6) (xs := r103) (ys := [(c45, c47, c49, c51_0, c51_1, c51_2)]) (by kernel_rfl) (by kernel_rfl) hy54 rfl rfl h56) ?_
    refine W.adv 1 ?_
    refine W.opH (OpIs.stV (b := 6) (v := ((vs 6) + 1)) (i := 0) (off := 2) (w := ((vs 6) + 1)) (n := 4) (s := 1) (xs := [(.agg [.str r6_0_0, o69, (.sref 103 (v103 + 1) 6 0 r103.length), .nilS])]) (ys := [(.agg [.str r6_0_0, o69, (.sref 103 ((v103 + 1) + 1) 6 0 (r103.length + 1)), .nilS])]) (d := (.agg [.str r6_0_0, o69, (.sref 103 (v103 + 1) 6 0 r103.length), .nilS])) (y := (.sref 103 ((v103 + 1) + 1) 6 0 (r103.length + 1))) (by kernel_rfl) rfl (by kernel_rfl) (by kernel_rfl) (Nat.le_of_ble_eq_true (by kernel_rfl)) (by kernel_rfl) (by kernel_rfl)) ?_
    refine W.adv 9 ?_
    exact W.to_loop (P := ref22_Clean_l2_s x0 x4 (wi (x8 + 1)) r5_0_0 r5_0_1 r5_0_2 r5_0_3 r6_0_0 r69 y53 r130 o69 B69 (.sref 103 ((v103 + 1) + 1) 6 0 (r103.length + 1)) (⟨((v103 + 1) + 1), false, .rows 6 (y53.map E_api_Link)⟩) o130 B130) (H _ _ ho69 _ _ (Opt.row (w := (v103 + 1)) (by first | rfl | omega) ln55) _ _ ho130) (by kernel_rfl)
  ·refine W.cond false (w := (decide (x8 < 8))) (by kernel_rfl) (decide_eq_false h36) ?_
   refine W.adv 12 ?_
   exact W.to_loop (P := ref22_Clean_l3_s x0 x4 0 r5_0_0 r5_0_1 r5_0_2 r5_0_3 r6_0_0 r69 r103 ([] : List T_api_Rule) r130 o69 B69 o103 B103 .nilS (jb 125) o130 B130) (H _ _ ho69 _ _ ho103 _ _ Opt.nil _ _ ho130) (by kernel_rfl)
 ·refine W.guard false (w := ((decide (x8 < (r5_0_2.length : Int))) == true)) (by kernel_rfl) (congrArg (fun b => b == true) (decide_eq_false h35)) ?_
  refine W.guard false (w := ((decide (x8 < (r5_0_2.length : Int))) == true)) (by kernel_rfl) (congrArg (fun b => b == true) (decide_eq_false h35)) ?_
  refine W.opS (OpIs.pk false (t := (decide (x8 < (r5_0_2.length : Int)))) (x := (.tuple [])) (y := (.bool false)) (by kernel_rfl) (decide_eq_false h35)) ?_
  refine W.adv 15 ?_
  exact W.to_loop (P := ref22_Clean_l3_s x0 x4 0 r5_0_0 r5_0_1 r5_0_2 r5_0_3 r6_0_0 r69 r103 ([] : List T_api_Rule) r130 o69 B69 o103 B103 .nilS (jb 125) o130 B130) (H _ _ ho69 _ _ ho103 _ _ Opt.nil _ _ ho130) (by kernel_rfl)
theorem ref22_Clean_l3_go {x0 : List T_api_Net} {x4 : Int} {x10 : Int} {r5_0_0 : ByteArray} {r5_0_1 : List T_api_Node} {r5_0_2 : List T_api_Link} {r5_0_3 : List T_api_Rule} {r6_0_0 : ByteArray} {r69 : List T_api_Node} {r103 : List T_api_Link} {r125 : List T_api_Rule} {r130 : List T_api_Net} {z : List T_api_Net} (H : ((x10 < (r5_0_3.length : Int) ∧ ((x10 < 8 ∧ (0 ≤ x10 ∧ (∃ e60 : ByteArray, (∃ e61 : Int, (∃ e62 : Int, (∃ e63 : Bool, (∃ e64 : List T46, (r5_0_3.getD (x10).toNat (ByteArray.empty, 0, 0, false, []) = (e60, e61, e62, e63, e64) ∧ (∃ c66_0 : ByteArray, (∃ c66_1 : Int, (∃ c66_2 : Int, (∃ c66_3 : Bool, (∃ c66_4 : List T46, (ref22_CleanRule_R e60 e61 e62 e63 e64 c66_0 c66_1 c66_2 c66_3 c66_4 ∧ ((r125.length + 1 + 192) * (64 + 1) ≤ 70368744177664 ∧ (∃ y68 : List T_api_Rule, y68 = r125 ++ [(c66_0, c66_1, c66_2, c66_3, c66_4)] ∧ (ref22_Clean_l3 x0 x4 (wi (x10 + 1)) r5_0_0 r5_0_1 r5_0_2 r5_0_3 r6_0_0 r69 r103 y68 r130 z))))))))))))))))) ∨ (¬ x10 < 8 ∧ ((r130.length + 1 + 192) * (88 + 1) ≤ 70368744177664 ∧ (∃ y72 : List T_api_Net, y72 = r130 ++ [(r6_0_0, r69, r103, r125)] ∧ (ref22_Clean_l0 x0 (wi (x4 + 1)) y72 z)))))) ∨ (¬ x10 < (r5_0_3.length : Int) ∧ ((r130.length + 1 + 192) * (88 + 1) ≤ 70368744177664 ∧ (∃ y76 : List T_api_Net, y76 = r130 ++ [(r6_0_0, r69, r103, r125)] ∧ (ref22_Clean_l0 x0 (wi (x4 + 1)) y76 z)))))) : ref22_Clean_l3 x0 x4 x10 r5_0_0 r5_0_1 r5_0_2 r5_0_3 r6_0_0 r69 r103 r125 r130 z := by
 intro o69 B69 ho69 o103 B103 ho103 o125 B125 ho125 o130 B130 ho130 j jb vs
 refine W.adv 1 ?_
 refine W.adv 5 ?_
 refine W.opS (OpIs.ldV (b := 5) (v := ((vs 5) + 1)) (i := 0) (off := 3) (w := ((vs 5) + 1)) (n := 4) (s := 1) (fz := false) (a := false) (xs := [(.agg [.str r5_0_0, (.list 2 (r5_0_1.map E_api_Node)), (.list 6 (r5_0_2.map E_api_Link)), (.list 5 (r5_0_3.map E_api_Rule))])]) (r := (.list 5 (r5_0_3.map E_api_Rule))) (by kernel_rfl) rfl (by kernel_rfl)) ?_
 refine W.opS (OpIs.ln (n := (r5_0_3.map E_api_Rule).length) (m := r5_0_3.length) (by kernel_rfl) (by rw [List.length_map])) ?_
 refine W.adv 2 ?_
 rcases H with ⟨h57, H⟩ | ⟨h57, H⟩
 ·refine W.guard true (w := ((decide (x10 < (r5_0_3.length : Int))) == true)) (by kernel_rfl) (congrArg (fun b => b == true) (decide_eq_true h57)) ?_
  refine W.adv 1 ?_
  refine W.guard true (w := ((decide (x10 < (r5_0_3.length : Int))) == true)) (by kernel_rfl) (congrArg (fun b => b == true) (decide_eq_true h57)) ?_
  refine W.adv 1 ?_
  refine W.opS (OpIs.pk true (t := (decide (x10 < (r5_0_3.length : Int)))) (x := (.bool (decide (x10 < 8)))) (y := (.bool false)) (by kernel_rfl) (decide_eq_true h57)) ?_
  refine W.adv 2 ?_
  rcases H with ⟨h58, H⟩ | ⟨h58, H⟩
  ·refine W.cond true (w := (decide (x10 < 8))) (by kernel_rfl) (decide_eq_true h58) ?_
   refine W.adv 6 ?_
   refine W.opS (OpIs.ldV (b := 6) (v := ((vs 6) + 1)) (i := 0) (off := 3) (w := ((vs 6) + 1)) (n := 4) (s := 1) (fz := false) (a := false) (xs := [(.agg [.str r6_0_0, o69, o103, o125])]) (r := o125) (by kernel_rfl) rfl (by kernel_rfl)) ?_
   refine W.adv 1 ?_
   refine W.opS (OpIs.ldV (b := 5) (v := ((vs 5) + 1)) (i := 0) (off := 3) (w := ((vs 5) + 1)) (n := 4) (s := 1) (fz := false) (a := false) (xs := [(.agg [.str r5_0_0, (.list 2 (r5_0_1.map E_api_Node)), (.list 6 (r5_0_2.map E_api_Link)), (.list 5 (r5_0_3.map E_api_Rule))])]) (r := (.list 5 (r5_0_3.map E_api_Rule))) (by kernel_rfl) rfl (by kernel_rfl)) ?_
   refine W.adv 1 ?_
   obtain ⟨h59, H⟩ := H
   obtain ⟨e60, e61, e62, e63, e64, he65, H⟩ := H
   refine W.opS (OpIs.ixE (enc := E_api_Rule) (n := 5) (k' := .i64) (L := r5_0_3) (i := x10) (d0 := (ByteArray.empty, 0, 0, false, [])) (x := (e60, e61, e62, e63, e64)) (by kernel_rfl) h59 h57 he65) ?_
   refine W.adv 1 ?_
   obtain ⟨c66_0, c66_1, c66_2, c66_3, c66_4, hc67, H⟩ := H
   refine W.callR (g := 5) (ds := [(.agg [.str e60, .int .u32 e61, .int .i64 e62, .bool e63, (.list 1 (e64.map E46))])]) (es := [(.agg [.str e60, .int .u32 e61, .int .i64 e62, .bool e63, (.list 1 (e64.map E46))])]) (r := (.agg [.str c66_0, .int .u32 c66_1, .int .i64 c66_2, .bool c66_3, (.list 1 (c66_4.map E46))])) (by kernel_rfl) (by kernel_rfl) (Ic.args hc67 (by kernel_rfl)) (by kernel_rfl) ?_
   refine W.adv 1 ?_
   rcases ho125 with ⟨rfl, hL125⟩ | ⟨v125, rfl, rfl⟩
   ·subst hL125
    obtain ⟨h71, H⟩ := H
    obtain ⟨y68, hy69, H⟩ := H
    have ln70 : 1 = y68.length := by rw [hy69] <;> rfl
    refine W.opH (OpIs.apENil (enc := E_api_Rule) (y := (.lit (.list 5 [(.agg [.str c66_0, .int .u32 c66_1, .int .i64 c66_2, .bool c66_3, (.list 1 (c66_4.map E46))])]))) (B := none) (n := 64) (d := 125) (v := B125.ver) (m := 5) (ys := [(c66_0, c66_1, c66_2, c66_3, c66_4)]) (by kernel_rfl) (by kernel_rfl) (hy69.trans (List.nil_append _)) (by first | (simp; done) | (simp at h71 ⊢; omega) | omega)) ?_
    refine W.adv 1 ?_
    refine W.opH (OpIs.stV (b := 6) (v := ((vs 6) + 1)) (i := 0) (off := 3) (w := ((vs 6) + 1)) (n := 4) (s := 1) (xs := [(.agg [.str r6_0_0, o69, o103, .nilS])]) (ys := [(.agg [.str r6_0_0, o69, o103, (.sref 125 (B125.ver + 1) 5 0 1)])]) (d := (.agg [.str r6_0_0, o69, o103, .nilS])) (y := (.sref 125 (B125.ver + 1) 5 0 1)) (by kernel_rfl) rfl (by kernel_rfl) (by kernel_rfl) (Nat.le_of_ble_eq_true (by kernel_rfl)) (by kernel_rfl) (by kernel_rfl)) ?_
    refine W.adv 9 ?_
    exact W.to_loop (P := ref22_Clean_l3_s x0 x4 (wi (x10 + 1)) r5_0_0 r5_0_1 r5_0_2 r5_0_3 r6_0_0 r69 r103 y68 r130 o69 B69 o103 B103 (.sref 125 (B125.ver + 1) 5 0 1) (⟨(B125.ver + 1), false, .rows 5 (y68.map E_api_Rule)⟩) o130 B130) (H _ _ ho69 _ _ ho103 _ _ (Opt.row (w := B125.ver) (by first | rfl | omega) ln70) _ _ ho130) (by kernel_rfl)
   ·obtain ⟨h71, H⟩ := H
    obtain ⟨y68, hy69, H⟩ := H
    have ln70 : (r125.length + 1) = y68.length := by rw [hy69, List.length_append] <;> rfl
    refine W.opK (OpIs.apERow (enc := E_api_Rule) (y := (.lit (.list 5 [(.agg [.str c66_0, .int .u32 c66_1, .int .i64 c66_2, .bool c66_3, (.list 1 (c66_4.map E46))])]))) (n := 64) (d := 125) (dv := (v125 + 1)) (b := 125) (v := (v125 + 1)) (w := (v125 + 1)) (len := r125.length) (m := 5) (xs := r125) (ys := [(c66_0, c66_1, c66_2, c66_3, c66_4)]) (by kernel_rfl) (by kernel_rfl) hy69 rfl rfl h71) ?_
    refine W.adv 1 ?_
    refine W.opH (OpIs.stV (b := 6) (v := ((vs 6) + 1)) (i := 0) (off := 3) (w := ((vs 6) + 1)) (n := 4) (s := 1) (xs := [(.agg [.str r6_0_0, o69, o103, (.sref 125 (v125 + 1) 5 0 r125.length)])]) (ys := [(.agg [.str r6_0_0, o69, o103, (.sref 125 ((v125 + 1) + 1) 5 0 (r125.length + 1))])]) (d := (.agg [.str r6_0_0, o69, o103, (.sref 125 (v125 + 1) 5 0 r125.length)])) (y := (.sref 125 ((v125 + 1) + 1) 5 0 (r125.length + 1))) (by kernel_rfl) rfl (by kernel_rfl) (by kernel_rfl) (Nat.le_of_ble_eq_true (by kernel_rfl)) (by kernel_rfl) (by kernel_rfl)) ?_
    refine W.adv 9 ?_
    exact W.to_loop (P := ref22_Clean_l3_s x0 x4 (wi (x10 + 1)) r5_0_0 r5_0_1 r5_0_2 r5_0_3 r6_0_0 r69 r103 y68 r130 o69 B69 o103 B103 (.sref 125 ((v125 + 1) + 1) 5 0 (r125.length + 1)) (⟨((v125 + 1) + 1), false, .rows 5 (y68.map E_api_Rule)⟩) o130 B130) (H _ _ ho69 _ _ ho103 _ _ (Opt.row (w := (v125 + 1)) (by first | rfl | omega) ln70) _ _ ho130) (by kernel_rfl)
  ·refine W.cond false (w := (decide (x10 < 8))) (by kernel_rfl) (decide_eq_false h58) ?_
   refine W.adv 7 ?_
   refine W.opS (OpIs.ldV (b := 6) (v := ((vs 6) + 1)) (i := 0) (off := 0) (w := ((vs 6) + 1)) (n := 4) (s := 4) (fz := false) (a := true) (xs := [(.agg [.str r6_0_0, o69, o103, o125])]) (r := (.agg [.str r6_0_0, o69, o103, o125])) (by kernel_rfl) rfl (by kernel_rfl)) ?_
   rcases ho69 with ⟨rfl, hL69⟩ | ⟨v69, rfl, rfl⟩
   ·subst hL69
    rcases ho103 with ⟨rfl, hL103⟩ | ⟨v103, rfl, rfl⟩
    ·subst hL103
     rcases ho125 with ⟨rfl, hL125⟩ | ⟨v125, rfl, rfl⟩
     ·subst hL125
      refine W.adv 1 ?_
      rcases ho130 with ⟨rfl, hL130⟩ | ⟨v130, rfl, rfl⟩
      ·subst hL130
       obtain ⟨h75, H⟩ := H
       obtain ⟨y72, hy73, H⟩ := H
       have ln74 : 1 = y72.length := by rw [hy73] <;> rfl
       refine W.opH (OpIs.apENil (enc := E_api_Net) (y := (.lit (.list 4 [(.agg [.str r6_0_0, .list 2 [], .list 6 [], .list 5 []])]))) (B := none) (n := 88) (d := 130) (v := B130.ver) (m := 4) (ys := [(r6_0_0, [], [], [])]) (by kernel_rfl) (by kernel_rfl) (hy73.trans (List.nil_append _)) (by first | (simp; done) | (simp at h75 ⊢; omega) | omega)) ?_
       refine W.adv 10 ?_
       exact W.to_loop (P := ref22_Clean_l0_s x0 (wi (x4 + 1)) y72 (.sref 130 (B130.ver + 1) 4 0 1) (⟨(B130.ver + 1), false, .rows 4 (y72.map E_api_Net)⟩)) (H _ _ (Opt.row (w := B130.ver) (by first | rfl | omega) ln74)) (by kernel_rfl)
      ·obtain ⟨h75, H⟩ := H
       obtain ⟨y72, hy73, H⟩ := H
       have ln74 : (r130.length + 1) = y72.length := by rw [hy73, List.length_append] <;> rfl
       refine W.opK (OpIs.apERow (enc := E_api_Net) (y := (.lit (.list 4 [(.agg [.str r6_0_0, .list 2 [], .list 6 [], .list 5 []])]))) (n := 88) (d := 130) (dv := (v130 + 1)) (b := 130) (v := (v130 + 1)) (w := (v130 + 1)) (len := r130.length) (m := 4) (xs := r130) (ys := [(r6_0_0, [], [], [])]) (by kernel_rfl) (by kernel_rfl) hy73 rfl rfl h75) ?_
       refine W.adv 10 ?_
       exact W.to_loop (P := ref22_Clean_l0_s x0 (wi (x4 + 1)) y72 (.sref 130 ((v130 + 1) + 1) 4 0 (r130.length + 1)) (⟨((v130 + 1) + 1), false, .rows 4 (y72.map E_api_Net)⟩)) (H _ _ (Opt.row (w := (v130 + 1)) (by first | rfl | omega) ln74)) (by kernel_rfl)
     ·refine W.opF (OpIs.bs (t := 22) (len := 1) (is := [0]) (vs := [(.agg [.str r6_0_0, .nilS, .nilS, (.sref 125 (v125 + 1) 5 0 r125.length)])]) (es := [(.agg [.str r6_0_0, .nilS, .nilS, (.list 5 (r125.map E_api_Rule))])]) (d := (.lit (.list 4 [(.agg [.str r6_0_0, .list 2 [], .list 6 [], (.list 5 (r125.map E_api_Rule))])]))) (by kernel_rfl) (rf_cons (rf_agg (rf_cons (by kernel_rfl) (rf_cons (by kernel_rfl) (rf_cons (by kernel_rfl) (rf_cons (rf_fullE (enc := E_api_Rule) E_api_Rule_t (b := 125) (v := (v125 + 1)) (w := (v125 + 1)) (fz := false) (xs := r125) (by kernel_rfl) rfl rfl) rf_nil))))) rf_nil) (by kernel_rfl) rfl) ?_
      rcases ho130 with ⟨rfl, hL130⟩ | ⟨v130, rfl, rfl⟩
      ·subst hL130
       obtain ⟨h75, H⟩ := H
       obtain ⟨y72, hy73, H⟩ := H
       have ln74 : 1 = y72.length := by rw [hy73] <;> rfl
       refine W.opH (OpIs.apENil (enc := E_api_Net) (y := (.lit (.list 4 [(.agg [.str r6_0_0, .list 2 [], .list 6 [], (.list 5 (r125.map E_api_Rule))])]))) (B := none) (n := 88) (d := 130) (v := B130.ver) (m := 4) (ys := [(r6_0_0, [], [], r125)]) (by kernel_rfl) (by kernel_rfl) (hy73.trans (List.nil_append _)) (by first | (simp; done) | (simp at h75 ⊢; omega) | omega)) ?_
       refine W.adv 10 ?_
       exact W.to_loop (P := ref22_Clean_l0_s x0 (wi (x4 + 1)) y72 (.sref 130 (B130.ver + 1) 4 0 1) (⟨(B130.ver + 1), false, .rows 4 (y72.map E_api_Net)⟩)) (H _ _ (Opt.row (w := B130.ver) (by first | rfl | omega) ln74)) (by kernel_rfl)
      ·obtain ⟨h75, H⟩ := H
       obtain ⟨y72, hy73, H⟩ := H
       have ln74 : (r130.length + 1) = y72.length := by rw [hy73, List.length_append] <;> rfl
       refine W.opK (OpIs.apERow (enc := E_api_Net) (y := (.lit (.list 4 [(.agg [.str r6_0_0, .list 2 [], .list 6 [], (.list 5 (r125.map E_api_Rule))])]))) (n := 88) (d := 130) (dv := (v130 + 1)) (b := 130) (v := (v130 + 1)) (w := (v130 + 1)) (len := r130.length) (m := 4) (xs := r130) (ys := [(r6_0_0, [], [], r125)]) (by kernel_rfl) (by kernel_rfl) hy73 rfl rfl h75) ?_
       refine W.adv 10 ?_
       exact W.to_loop (P := ref22_Clean_l0_s x0 (wi (x4 + 1)) y72 (.sref 130 ((v130 + 1) + 1) 4 0 (r130.length + 1)) (⟨((v130 + 1) + 1), false, .rows 4 (y72.map E_api_Net)⟩)) (H _ _ (Opt.row (w := (v130 + 1)) (by first | rfl | omega) ln74)) (by kernel_rfl)
    ·rcases ho125 with ⟨rfl, hL125⟩ | ⟨v125, rfl, rfl⟩
     ·subst hL125
      refine W.opF (OpIs.bs (t := 22) (len := 1) (is := [0]) (vs := [(.agg [.str r6_0_0, .nilS, (.sref 103 (v103 + 1) 6 0 r103.length), .nilS])]) (es := [(.agg [.str r6_0_0, .nilS, (.list 6 (r103.map E_api_Link)), .nilS])]) (d := (.lit (.list 4 [(.agg [.str r6_0_0, .list 2 [], (.list 6 (r103.map E_api_Link)), .list 5 []])]))) (by kernel_rfl) (rf_cons (rf_agg (rf_cons (by kernel_rfl) (rf_cons (by kernel_rfl) (rf_cons (rf_fullE (enc := E_api_Link) E_api_Link_t (b := 103) (v := (v103 + 1)) (w := (v103 + 1)) (fz := false) (xs := r103) (by kernel_rfl) rfl rfl) (rf_cons (by kernel_rfl) rf_nil))))) rf_nil) (by kernel_rfl) rfl) ?_
      rcases ho130 with ⟨rfl, hL130⟩ | ⟨v130, rfl, rfl⟩
      ·subst hL130
       obtain ⟨h75, H⟩ := H
       obtain ⟨y72, hy73, H⟩ := H
       have ln74 : 1 = y72.length := by rw [hy73] <;> rfl
       refine W.opH (OpIs.apENil (enc := E_api_Net) (y := (.lit (.list 4 [(.agg [.str r6_0_0, .list 2 [], (.list 6 (r103.map E_api_Link)), .list 5 []])]))) (B := none) (n := 88) (d := 130) (v := B130.ver) (m := 4) (ys := [(r6_0_0, [], r103, [])]) (by kernel_rfl) (by kernel_rfl) (hy73.trans (List.nil_append _)) (by first | (simp; done) | (simp at h75 ⊢; omega) | omega)) ?_
       refine W.adv 10 ?_
       exact W.to_loop (P := ref22_Clean_l0_s x0 (wi (x4 + 1)) y72 (.sref 130 (B130.ver + 1) 4 0 1) (⟨(B130.ver + 1), false, .rows 4 (y72.map E_api_Net)⟩)) (H _ _ (Opt.row (w := B130.ver) (by first | rfl | omega) ln74)) (by kernel_rfl)
      ·obtain ⟨h75, H⟩ := H
       obtain ⟨y72, hy73, H⟩ := H
       have ln74 : (r130.length + 1) = y72.length := by rw [hy73, List.length_append] <;> rfl
       refine W.opK (OpIs.apERow (enc := E_api_Net) (y := (.lit (.list 4 [(.agg [.str r6_0_0, .list 2 [], (.list 6 (r103.map E_api_Link)), .list 5 []])]))) (n := 88) (d := 130) (dv := (v130 + 1)) (b := 130) (v := (v130 + 1)) (w := (v130 + 1)) (len := r130.length) (m := 4) (xs := r130) (ys := [(r6_0_0, [], r103, [])]) (by kernel_rfl) (by kernel_rfl) hy73 rfl rfl h75) ?_
       refine W.adv 10 ?_
       exact W.to_loop (P := ref22_Clean_l0_s x0 (wi (x4 + 1)) y72 (.sref 130 ((v130 + 1) + 1) 4 0 (r130.length + 1)) (⟨((v130 + 1) + 1), false, .rows 4 (y72.map E_api_Net)⟩)) (H _ _ (Opt.row (w := (v130 + 1)) (by first | rfl | omega) ln74)) (by kernel_rfl)
     ·refine W.opF (OpIs.bs (t := 22) (len := 1) (is := [0]) (vs := [(.agg [.str r6_0_0, .nilS, (.sref 103 (v103 + 1) 6 0 r103.length), (.sref 125 (v125 + 1) 5 0 r125.length)])]) (es := [(.agg [.str r6_0_0, .nilS, (.list 6 (r103.map E_api_Link)), (.list 5 (r125.map E_api_Rule))])]) (d := (.lit (.list 4 [(.agg [.str r6_0_0, .list 2 [], (.list 6 (r103.map E_api_Link)), (.list 5 (r125.map E_api_Rule))])]))) (by kernel_rfl) (rf_cons (rf_agg (rf_cons (by kernel_rfl) (rf_cons (by kernel_rfl) (rf_cons (rf_fullE (enc := E_api_Link) E_api_Link_t (b := 103) (v := (v103 + 1)) (w := (v103 + 1)) (fz := false) (xs := r103) (by kernel_rfl) rfl rfl) (rf_cons (rf_fullE (enc := E_api_Rule) E_api_Rule_t (b := 125) (v := (v125 + 1)) (w := (v125 + 1)) (fz := false) (xs := r125) (by kernel_rfl) rfl rfl) rf_nil))))) rf_nil) (by kernel_rfl) rfl) ?_
      rcases ho130 with ⟨rfl, hL130⟩ | ⟨v130, rfl, rfl⟩
      ·subst hL130
       obtain ⟨h75, H⟩ := H
       obtain ⟨y72, hy73, H⟩ := H
       have ln74 : 1 = y72.length := by rw [hy73] <;> rfl
       refine W.opH (OpIs.apENil (enc := E_api_Net) (y := (.lit (.list 4 [(.agg [.str r6_0_0, .list 2 [], (.list 6 (r103.map E_api_Link)), (.list 5 (r125.map E_api_Rule))])]))) (B := none) (n := 88) (d := 130) (v := B130.ver) (m := 4) (ys := [(r6_0_0, [], r103, r125)]) (by kernel_rfl) (by kernel_rfl) (hy73.trans (List.nil_append _)) (by first | (simp; done) | (simp at h75 ⊢; omega) | omega)) ?_
       refine W.adv 10 ?_
       exact W.to_loop (P := ref22_Clean_l0_s x0 (wi (x4 + 1)) y72 (.sref 130 (B130.ver + 1) 4 0 1) (⟨(B130.ver + 1), false, .rows 4 (y72.map E_api_Net)⟩)) (H _ _ (Opt.row (w := B130.ver) (by first | rfl | omega) ln74)) (by kernel_rfl)
      ·obtain ⟨h75, H⟩ := H
       obtain ⟨y72, hy73, H⟩ := H
       have ln74 : (r130.length + 1) = y72.length := by rw [hy73, List.length_append] <;> rfl
       refine W.opK (OpIs.apERow (enc := E_api_Net) (y := (.lit (.list 4 [(.agg [.str r6_0_0, .list 2 [], (.list 6 (r103.map E_api_Link)), (.list 5 (r125.map E_api_Rule))])]))) (n := 88) (d := 130) (dv := (v130 + 1)) (b := 130) (v := (v130 + 1)) (w := (v130 + 1)) (len := r130.length) (m := 4) (xs := r130) (ys := [(r6_0_0, [], r103, r125)]) (by kernel_rfl) (by kernel_rfl) hy73 rfl rfl h75) ?_
       refine W.adv 10 ?_
       exact W.to_loop (P := ref22_Clean_l0_s x0 (wi (x4 + 1)) y72 (.sref 130 ((v130 + 1) + 1) 4 0 (r130.length + 1)) (⟨((v130 + 1) + 1), false, .rows 4 (y72.map E_api_Net)⟩)) (H _ _ (Opt.row (w := (v130 + 1)) (by first | rfl | omega) ln74)) (by kernel_rfl)
   ·rcases ho103 with ⟨rfl, hL103⟩ | ⟨v103, rfl, rfl⟩
    ·subst hL103
     rcases ho125 with ⟨rfl, hL125⟩ | ⟨v125, rfl, rfl⟩
     ·subst hL125
      refine W.opF (OpIs.bs (t := 22) (len := 1) (is := [0]) (vs := [(.agg [.str r6_0_0, (.sref 69 (v69 + 1) 2 0 r69.length), .nilS, .nilS])]) (es := [(.agg [.str r6_0_0, (.list 2 (r69.map E_api_Node)), .nilS, .nilS])]) (d := (.lit (.list 4 [(.agg [.str r6_0_0, (.list 2 (r69.map E_api_Node)), .list 6 [], .list 5 []])]))) (by kernel_rfl) (rf_cons (rf_agg (rf_cons (by kernel_rfl) (rf_cons (rf_fullE (enc := E_api_Node) E_api_Node_t (b := 69) (v := (v69 + 1)) (w := (v69 + 1)) (fz := false) (xs := r69) (by kernel_rfl) rfl rfl) (rf_cons (by kernel_rfl) (rf_cons (by kernel_rfl) rf_nil))))) rf_nil) (by kernel_rfl) rfl) ?_
      rcases ho130 with ⟨rfl, hL130⟩ | ⟨v130, rfl, rfl⟩
      ·subst hL130
       obtain ⟨h75, H⟩ := H
       obtain ⟨y72, hy73, H⟩ := H
       have ln74 : 1 = y72.length := by rw [hy73] <;> rfl
       refine W.opH (OpIs.apENil (enc := E_api_Net) (y := (.lit (.list 4 [(.agg [.str r6_0_0, (.list 2 (r69.map E_api_Node)), .list 6 [], .list 5 []])]))) (B := none) (n := 88) (d := 130) (v := B130.ver) (m := 4) (ys := [(r6_0_0, r69, [], [])]) (by kernel_rfl) (by kernel_rfl) (hy73.trans (List.nil_append _)) (by first | (simp; done) | (simp at h75 ⊢; omega) | omega)) ?_
       refine W.adv 10 ?_
       exact W.to_loop (P := ref22_Clean_l0_s x0 (wi (x4 + 1)) y72 (.sref 130 (B130.ver + 1) 4 0 1) (⟨(B130.ver + 1), false, .rows 4 (y72.map E_api_Net)⟩)) (H _ _ (Opt.row (w := B130.ver) (by first | rfl | omega) ln74)) (by kernel_rfl)
      ·obtain ⟨h75, H⟩ := H
       obtain ⟨y72, hy73, H⟩ := H
       have ln74 : (r130.length + 1) = y72.length := by rw [hy73, List.length_append] <;> rfl
       refine W.opK (OpIs.apERow (enc := E_api_Net) (y := (.lit (.list 4 [(.agg [.str r6_0_0, (.list 2 (r69.map E_api_Node)), .list 6 [], .list 5 []])]))) (n := 88) (d := 130) (dv := (v130 + 1)) (b := 130) (v := (v130 + 1)) (w := (v130 + 1)) (len := r130.length) (m := 4) (xs := r130) (ys := [(r6_0_0, r69, [], [])]) (by kernel_rfl) (by kernel_rfl) hy73 rfl rfl h75) ?_
       refine W.adv 10 ?_
       exact W.to_loop (P := ref22_Clean_l0_s x0 (wi (x4 + 1)) y72 (.sref 130 ((v130 + 1) + 1) 4 0 (r130.length + 1)) (⟨((v130 + 1) + 1), false, .rows 4 (y72.map E_api_Net)⟩)) (H _ _ (Opt.row (w := (v130 + 1)) (by first | rfl | omega) ln74)) (by kernel_rfl)
     ·refine W.opF (OpIs.bs (t := 22) (len := 1) (is := [0]) (vs := [(.agg [.str r6_0_0, (.sref 69 (v69 + 1) 2 0 r69.length), .nilS, (.sref 125 (v125 + 1) 5 0 r125.length)])]) (es := [(.agg [.str r6_0_0, (.list 2 (r69.map E_api_Node)), .nilS, (.list 5 (r125.map E_api_Rule))])]) (d := (.lit (.list 4 [(.agg [.str r6_0_0, (.list 2 (r69.map E_api_Node)), .list 6 [], (.list 5 (r125.map E_api_Rule))])]))) (by kernel_rfl) (rf_cons (rf_agg (rf_cons (by kernel_rfl) (rf_cons (rf_fullE (enc := E_api_Node) E_api_Node_t (b := 69) (v := (v69 + 1)) (w := (v69 + 1)) (fz := false) (xs := r69) (by kernel_rfl) rfl rfl) (rf_cons (by kernel_rfl) (rf_cons (rf_fullE (enc := E_api_Rule) E_api_Rule_t (b := 125) (v := (v125 + 1)) (w := (v125 + 1)) (fz := false) (xs := r125) (by kernel_rfl) rfl rfl) rf_nil))))) rf_nil) (by kernel_rfl) rfl) ?_
      rcases ho130 with ⟨rfl, hL130⟩ | ⟨v130, rfl, rfl⟩
      ·subst hL130
       obtain ⟨h75, H⟩ := H
       obtain ⟨y72, hy73, H⟩ := H
       have ln74 : 1 = y72.length := by rw [hy73] <;> rfl
       refine W.opH (OpIs.apENil (enc := E_api_Net) (y := (.lit (.list 4 [(.agg [.str r6_0_0, (.list 2 (r69.map E_api_Node)), .list 6 [], (.list 5 (r125.map E_api_Rule))])]))) (B := none) (n := 88) (d := 130) (v := B130.ver) (m := 4) (ys := [(r6_0_0, r69, [], r125)]) (by kernel_rfl) (by kernel_rfl) (hy73.trans (List.nil_append _)) (by first | (simp; done) | (simp at h75 ⊢; omega) | omega)) ?_
       refine W.adv 10 ?_
       exact W.to_loop (P := ref22_Clean_l0_s x0 (wi (x4 + 1)) y72 (.sref 130 (B130.ver + 1) 4 0 1) (⟨(B130.ver + 1), false, .rows 4 (y72.map E_api_Net)⟩)) (H _ _ (Opt.row (w := B130.ver) (by first | rfl | omega) ln74)) (by kernel_rfl)
      ·obtain ⟨h75, H⟩ := H
       obtain ⟨y72, hy73, H⟩ := H
       have ln74 : (r130.length + 1) = y72.length := by rw [hy73, List.length_append] <;> rfl
       refine W.opK (OpIs.apERow (enc := E_api_Net) (y := (.lit (.list 4 [(.agg [.str r6_0_0, (.list 2 (r69.map E_api_Node)), .list 6 [], (.list 5 (r125.map E_api_Rule))])]))) (n := 88) (d := 130) (dv := (v130 + 1)) (b := 130) (v := (v130 + 1)) (w := (v130 + 1)) (len := r130.length) (m := 4) (xs := r130) (ys := [(r6_0_0, r69, [], r125)]) (by kernel_rfl) (by kernel_rfl) hy73 rfl rfl h75) ?_
       refine W.adv 10 ?_
       exact W.to_loop (P := ref22_Clean_l0_s x0 (wi (x4 + 1)) y72 (.sref 130 ((v130 + 1) + 1) 4 0 (r130.length + 1)) (⟨((v130 + 1) + 1), false, .rows 4 (y72.map E_api_Net)⟩)) (H _ _ (Opt.row (w := (v130 + 1)) (by first | rfl | omega) ln74)) (by kernel_rfl)
    ·rcases ho125 with ⟨rfl, hL125⟩ | ⟨v125, rfl, rfl⟩
     ·subst hL125
      refine W.opF (OpIs.bs (t := 22) (len := 1) (is := [0]) (vs := [(.agg [.str r6_0_0, (.sref 69 (v69 + 1) 2 0 r69.length), (.sref 103 (v103 + 1) 6 0 r103.length), .nilS])]) (es := [(.agg [.str r6_0_0, (.list 2 (r69.map E_api_Node)), (.list 6 (r103.map E_api_Link)), .nilS])]) (d := (.lit (.list 4 [(.agg [.str r6_0_0, (.list 2 (r69.map E_api_Node)), (.list 6 (r103.map E_api_Link)), .list 5 []])]))) (by kernel_rfl) (rf_cons (rf_agg (rf_cons (by kernel_rfl) (rf_cons (rf_fullE (enc := E_api_Node) E_api_Node_t (b := 69) (v := (v69 + 1)) (w := (v69 + 1)) (fz := false) (xs := r69) (by kernel_rfl) rfl rfl) (rf_cons (rf_fullE (enc := E_api_Link) E_api_Link_t (b := 103) (v := (v103 + 1)) (w := (v103 + 1)) (fz := false) (xs := r103) (by kernel_rfl) rfl rfl) (rf_cons (by kernel_rfl) rf_nil))))) rf_nil) (by kernel_rfl) rfl) ?_
      rcases ho130 with ⟨rfl, hL130⟩ | ⟨v130, rfl, rfl⟩
      ·subst hL130
       obtain ⟨h75, H⟩ := H
       obtain ⟨y72, hy73, H⟩ := H
       have ln74 : 1 = y72.length := by rw [hy73] <;> rfl
       refine W.opH (OpIs.apENil (enc := E_api_Net) (y := (.lit (.list 4 [(.agg [.str r6_0_0, (.list 2 (r69.map E_api_Node)), (.list 6 (r103.map E_api_Link)), .list 5 []])]))) (B := none) (n := 88) (d := 130) (v := B130.ver) (m := 4) (ys := [(r6_0_0, r69, r103, [])]) (by kernel_rfl) (by kernel_rfl) (hy73.trans (List.nil_append _)) (by first | (simp; done) | (simp at h75 ⊢; omega) | omega)) ?_
       refine W.adv 10 ?_
       exact W.to_loop (P := ref22_Clean_l0_s x0 (wi (x4 + 1)) y72 (.sref 130 (B130.ver + 1) 4 0 1) (⟨(B130.ver + 1), false, .rows 4 (y72.map E_api_Net)⟩)) (H _ _ (Opt.row (w := B130.ver) (by first | rfl | omega) ln74)) (by kernel_rfl)
      ·obtain ⟨h75, H⟩ := H
       obtain ⟨y72, hy73, H⟩ := H
       have ln74 : (r130.length + 1) = y72.length := by rw [hy73, List.length_append] <;> rfl
       refine W.opK (OpIs.apERow (enc := E_api_Net) (y := (.lit (.list 4 [(.agg [.str r6_0_0, (.list 2 (r69.map E_api_Node)), (.list 6 (r103.map E_api_Link)), .list 5 []])]))) (n := 88) (d := 130) (dv := (v130 + 1)) (b := 130) (v := (v130 + 1)) (w := (v130 + 1)) (len := r130.length) (m := 4) (xs := r130) (ys := [(r6_0_0, r69, r103, [])]) (by kernel_rfl) (by kernel_rfl) hy73 rfl rfl h75) ?_
       refine W.adv 10 ?_
       exact W.to_loop (P := ref22_Clean_l0_s x0 (wi (x4 + 1)) y72 (.sref 130 ((v130 + 1) + 1) 4 0 (r130.length + 1)) (⟨((v130 + 1) + 1), false, .rows 4 (y72.map E_api_Net)⟩)) (H _ _ (Opt.row (w := (v130 + 1)) (by first | rfl | omega) ln74)) (by kernel_rfl)
     ·refine W.opF (OpIs.bs (t := 22) (len := 1) (is := [0]) (vs := [(.agg [.str r6_0_0, (.sref 69 (v69 + 1) 2 0 r69.length), (.sref 103 (v103 + 1) 6 0 r103.length), (.sref 125 (v125 + 1) 5 0 r125.length)])]) (es := [(.agg [.str r6_0_0, (.list 2 (r69.map E_api_Node)), (.list 6 (r103.map E_api_Link)), (.list 5 (r125.map E_api_Rule))])]) (d := (.lit (.list 4 [(.agg [.str r6_0_0, (.list 2 (r69.map E_api_Node)), (.list 6 (r103.map E_api_Link)), (.list 5 (r125.map E_api_Rule))])]))) (by kernel_rfl) (rf_cons (rf_agg (rf_cons (by kernel_rfl) (rf_cons (rf_fullE (enc := E_api_Node) E_api_Node_t (b := 69) (v := (v69 + 1)) (w := (v69 + 1)) (fz := false) (xs := r69) (by kernel_rfl) rfl rfl) (rf_cons (rf_fullE (enc := E_api_Link) E_api_Link_t (b := 103) (v := (v103 + 1)) (w := (v103 + 1)) (fz := false) (xs := r103) (by kernel_rfl) rfl rfl) (rf_cons (rf_fullE (enc := E_api_Rule) E_api_Rule_t (b := 125) (v := (v125 + 1)) (w := (v125 + 1)) (fz := false) (xs := r125) (by kernel_rfl) rfl rfl) rf_nil))))) rf_nil) (by kernel_rfl) rfl) ?_
      rcases ho130 with ⟨rfl, hL130⟩ | ⟨v130, rfl, rfl⟩
      ·subst hL130
       obtain ⟨h75, H⟩ := H
       obtain ⟨y72, hy73, H⟩ := H
       have ln74 : 1 = y72.length := by rw [hy73] <;> rfl
       refine W.opH (OpIs.apENil (enc := E_api_Net) (y := (.lit (.list 4 [(.agg [.str r6_0_0, (.list 2 (r69.map E_api_Node)), (.list 6 (r103.map E_api_Link)), (.list 5 (r125.map E_api_Rule))])]))) (B := none) (n := 88) (d := 130) (v := B130.ver) (m := 4) (ys := [(r6_0_0, r69, r103, r125)]) (by kernel_rfl) (by kernel_rfl) (hy73.trans (List.nil_append _)) (by first | (simp; done) | (simp at h75 ⊢; omega) | omega)) ?_
       refine W.adv 10 ?_
       exact W.to_loop (P := ref22_Clean_l0_s x0 (wi (x4 + 1)) y72 (.sref 130 (B130.ver + 1) 4 0 1) (⟨(B130.ver + 1), false, .rows 4 (y72.map E_api_Net)⟩)) (H _ _ (Opt.row (w := B130.ver) (by first | rfl | omega) ln74)) (by kernel_rfl)
      ·obtain ⟨h75, H⟩ := H
       obtain ⟨y72, hy73, H⟩ := H
       have ln74 : (r130.length + 1) = y72.length := by rw [hy73, List.length_append] <;> rfl
       refine W.opK (OpIs.apERow (enc := E_api_Net) (y := (.lit (.list 4 [(.agg [.str r6_0_0, (.list 2 (r69.map E_api_Node)), (.list 6 (r103.map E_api_Link)), (.list 5 (r125.map E_api_Rule))])]))) (n := 88) (d := 130) (dv := (v130 + 1)) (b := 130) (v := (v130 + 1)) (w := (v130 + 1)) (len := r130.length) (m := 4) (xs := r130) (ys := [(r6_0_0, r69, r103, r125)]) (by kernel_rfl) (by kernel_rfl) hy73 rfl rfl h75) ?_
       refine W.adv 10 ?_
       exact W.to_loop (P := ref22_Clean_l0_s x0 (wi (x4 + 1)) y72 (.sref 130 ((v130 + 1) + 1) 4 0 (r130.length + 1)) (⟨((v130 + 1) + 1), false, .rows 4 (y72.map E_api_Net)⟩)) (H _ _ (Opt.row (w := (v130 + 1)) (by first | rfl | omega) ln74)) (by kernel_rfl)
 ·refine W.guard false (w := ((decide (x10 < (r5_0_3.length : Int))) == true)) (by kernel_rfl) (congrArg (fun b => b == true) (decide_eq_false h57)) ?_
  refine W.guard false (w := ((decide (x10 < (r5_0_3.length : Int))) == true)) (by kernel_rfl) (congrArg (fun b => b == true) (decide_eq_false h57)) ?_
  refine W.opS (OpIs.pk false (t := (decide (x10 < (r5_0_3.length : Int)))) (x := (.tuple [])) (y := (.bool false)) (by kernel_rfl) (decide_eq_false h57)) ?_
  refine W.adv 10 ?_
  refine W.opS (OpIs.ldV (b := 6) (v := ((vs 6) + 1)) (i := 0) (off := 0) (w := ((vs 6) + 1)) (n := 4) (s := 4) (fz := false) (a := true) (xs := [(.agg [.str r6_0_0, o69, o103, o125])]) (r := (.agg [.str r6_0_0, o69, o103, o125])) (by kernel_rfl) rfl (by kernel_rfl)) ?_
  rcases ho69 with ⟨rfl, hL69⟩ | ⟨v69, rfl, rfl⟩
  ·subst hL69
   rcases ho103 with ⟨rfl, hL103⟩ | ⟨v103, rfl, rfl⟩
   ·subst hL103
    rcases ho125 with ⟨rfl, hL125⟩ | ⟨v125, rfl, rfl⟩
    ·subst hL125
     refine W.adv 1 ?_
     rcases ho130 with ⟨rfl, hL130⟩ | ⟨v130, rfl, rfl⟩
     ·subst hL130
      obtain ⟨h79, H⟩ := H
      obtain ⟨y76, hy77, H⟩ := H
      have ln78 : 1 = y76.length := by rw [hy77] <;> rfl
      refine W.opH (OpIs.apENil (enc := E_api_Net) (y := (.lit (.list 4 [(.agg [.str r6_0_0, .list 2 [], .list 6 [], .list 5 []])]))) (B := none) (n := 88) (d := 130) (v := B130.ver) (m := 4) (ys := [(r6_0_0, [], [], [])]) (by kernel_rfl) (by kernel_rfl) (hy77.trans (List.nil_append _)) (by first | (simp; done) | (simp at h79 ⊢; omega) | omega)) ?_
      refine W.adv 10 ?_
      exact W.to_loop (P := ref22_Clean_l0_s x0 (wi (x4 + 1)) y76 (.sref 130 (B130.ver + 1) 4 0 1) (⟨(B130.ver + 1), false, .rows 4 (y76.map E_api_Net)⟩)) (H _ _ (Opt.row (w := B130.ver) (by first | rfl | omega) ln78)) (by kernel_rfl)
     ·obtain ⟨h79, H⟩ := H
      obtain ⟨y76, hy77, H⟩ := H
      have ln78 : (r130.length + 1) = y76.length := by rw [hy77, List.length_append] <;> rfl
      refine W.opK (OpIs.apERow (enc := E_api_Net) (y := (.lit (.list 4 [(.agg [.str r6_0_0, .list 2 [], .list 6 [], .list 5 []])]))) (n := 88) (d := 130) (dv := (v130 + 1)) (b := 130) (v := (v130 + 1)) (w := (v130 + 1)) (len := r130.length) (m := 4) (xs := r130) (ys := [(r6_0_0, [], [], [])]) (by kernel_rfl) (by kernel_rfl) hy77 rfl rfl h79) ?_
      refine W.adv 10 ?_
      exact W.to_loop (P := ref22_Clean_l0_s x0 (wi (x4 + 1)) y76 (.sref 130 ((v130 + 1) + 1) 4 0 (r130.length + 1)) (⟨((v130 + 1) + 1), false, .rows 4 (y76.map E_api_Net)⟩)) (H _ _ (Opt.row (w := (v130 + 1)) (by first | rfl | omega) ln78)) (by kernel_rfl)
    ·refine W.opF (OpIs.bs (t := 22) (len := 1) (is := [0]) (vs := [(.agg [.str r6_0_0, .nilS, .nilS, (.sref 125 (v125 + 1) 5 0 r125.length)])]) (es := [(.agg [.str r6_0_0, .nilS, .nilS, (.list 5 (r125.map E_api_Rule))])]) (d := (.lit (.list 4 [(.agg [.str r6_0_0, .list 2 [], .list 6 [], (.list 5 (r125.map E_api_Rule))])]))) (by kernel_rfl) (rf_cons (rf_agg (rf_cons (by kernel_rfl) (rf_cons (by kernel_rfl) (rf_cons (by kernel_rfl) (rf_cons (rf_fullE (enc := E_api_Rule) E_api_Rule_t (b := 125) (v := (v125 + 1)) (w := (v125 + 1)) (fz := false) (xs := r125) (by kernel_rfl) rfl rfl) rf_nil))))) rf_nil) (by kernel_rfl) rfl) ?_
     rcases ho130 with ⟨rfl, hL130⟩ | ⟨v130, rfl, rfl⟩
     ·subst hL130
      obtain ⟨h79, H⟩ := H
      obtain ⟨y76, hy77, H⟩ := H
      have ln78 : 1 = y76.length := by rw [hy77] <;> rfl
      refine W.opH (OpIs.apENil (enc := E_api_Net) (y := (.lit (.list 4 [(.agg [.str r6_0_0, .list 2 [], .list 6 [], (.list 5 (r125.map E_api_Rule))])]))) (B := none) (n := 88) (d := 130) (v := B130.ver) (m := 4) (ys := [(r6_0_0, [], [], r125)]) (by kernel_rfl) (by kernel_rfl) (hy77.trans (List.nil_append _)) (by first | (simp; done) | (simp at h79 ⊢; omega) | omega)) ?_
      refine W.adv 10 ?_
      exact W.to_loop (P := ref22_Clean_l0_s x0 (wi (x4 + 1)) y76 (.sref 130 (B130.ver + 1) 4 0 1) (⟨(B130.ver + 1), false, .rows 4 (y76.map E_api_Net)⟩)) (H _ _ (Opt.row (w := B130.ver) (by first | rfl | omega) ln78)) (by kernel_rfl)
     ·obtain ⟨h79, H⟩ := H
      obtain ⟨y76, hy77, H⟩ := H
      have ln78 : (r130.length + 1) = y76.length := by rw [hy77, List.length_append] <;> rfl
      refine W.opK (OpIs.apERow (enc := E_api_Net) (y := (.lit (.list 4 [(.agg [.str r6_0_0, .list 2 [], .list 6 [], (.list 5 (r125.map E_api_Rule))])]))) (n := 88) (d := 130) (dv := (v130 + 1)) (b := 130) (v := (v130 + 1)) (w := (v130 + 1)) (len := r130.length) (m := 4) (xs := r130) (ys := [(r6_0_0, [], [], r125)]) (by kernel_rfl) (by kernel_rfl) hy77 rfl rfl h79) ?_
      refine W.adv 10 ?_
      exact W.to_loop (P := ref22_Clean_l0_s x0 (wi (x4 + 1)) y76 (.sref 130 ((v130 + 1) + 1) 4 0 (r130.length + 1)) (⟨((v130 + 1) + 1), false, .rows 4 (y76.map E_api_Net)⟩)) (H _ _ (Opt.row (w := (v130 + 1)) (by first | rfl | omega) ln78)) (by kernel_rfl)
   ·rcases ho125 with ⟨rfl, hL125⟩ | ⟨v125, rfl, rfl⟩
    ·subst hL125
     refine W.opF (OpIs.bs (t := 22) (len := 1) (is := [0]) (vs := [(.agg [.str r6_0_0, .nilS, (.sref 103 (v103 + 1) 6 0 r103.length), .nilS])]) (es := [(.agg [.str r6_0_0, .nilS, (.list 6 (r103.map E_api_Link)), .nilS])]) (d := (.lit (.list 4 [(.agg [.str r6_0_0, .list 2 [], (.list 6 (r103.map E_api_Link)), .list 5 []])]))) (by kernel_rfl) (rf_cons (rf_agg (rf_cons (by kernel_rfl) (rf_cons (by kernel_rfl) (rf_cons (rf_fullE (enc := E_api_Link) E_api_Link_t (b := 103) (v := (v103 + 1)) (w := (v103 + 1)) (fz := false) (xs := r103) (by kernel_rfl) rfl rfl) (rf_cons (by kernel_rfl) rf_nil))))) rf_nil) (by kernel_rfl) rfl) ?_
     rcases ho130 with ⟨rfl, hL130⟩ | ⟨v130, rfl, rfl⟩
     ·subst hL130
      obtain ⟨h79, H⟩ := H
      obtain ⟨y76, hy77, H⟩ := H
      have ln78 : 1 = y76.length := by rw [hy77] <;> rfl
      refine W.opH (OpIs.apENil (enc := E_api_Net) (y := (.lit (.list 4 [(.agg [.str r6_0_0, .list 2 [], (.list 6 (r103.map E_api_Link)), .list 5 []])]))) (B := none) (n := 88) (d := 130) (v := B130.ver) (m := 4) (ys := [(r6_0_0, [], r103, [])]) (by kernel_rfl) (by kernel_rfl) (hy77.trans (List.nil_append _)) (by first | (simp; done) | (simp at h79 ⊢; omega) | omega)) ?_
      refine W.adv 10 ?_
      exact W.to_loop (P := ref22_Clean_l0_s x0 (wi (x4 + 1)) y76 (.sref 130 (B130.ver + 1) 4 0 1) (⟨(B130.ver + 1), false, .rows 4 (y76.map E_api_Net)⟩)) (H _ _ (Opt.row (w := B130.ver) (by first | rfl | omega) ln78)) (by kernel_rfl)
     ·obtain ⟨h79, H⟩ := H
      obtain ⟨y76, hy77, H⟩ := H
      have ln78 : (r130.length + 1) = y76.length := by rw [hy77, List.length_append] <;> rfl
      refine W.opK (OpIs.apERow (enc := E_api_Net) (y := (.lit (.list 4 [(.agg [.str r6_0_0, .list 2 [], (.list 6 (r103.map E_api_Link)), .list 5 []])]))) (n := 88) (d := 130) (dv := (v130 + 1)) (b := 130) (v := (v130 + 1)) (w := (v130 + 1)) (len := r130.length) (m := 4) (xs := r130) (ys := [(r6_0_0, [], r103, [])]) (by kernel_rfl) (by kernel_rfl) hy77 rfl rfl h79) ?_
      refine W.adv 10 ?_
      exact W.to_loop (P := ref22_Clean_l0_s x0 (wi (x4 + 1)) y76 (.sref 130 ((v130 + 1) + 1) 4 0 (r130.length + 1)) (⟨((v130 + 1) + 1), false, .rows 4 (y76.map E_api_Net)⟩)) (H _ _ (Opt.row (w := (v130 + 1)) (by first | rfl | omega) ln78)) (by kernel_rfl)
    ·refine W.opF (OpIs.bs (t := 22) (len := 1) (is := [0]) (vs := [(.agg [.str r6_0_0, .nilS, (.sref 103 (v103 + 1) 6 0 r103.length), (.sref 125 (v125 + 1) 5 0 r125.length)])]) (es := [(.agg [.str r6_0_0, .nilS, (.list 6 (r103.map E_api_Link)), (.list 5 (r125.map E_api_Rule))])]) (d := (.lit (.list 4 [(.agg [.str r6_0_0, .list 2 [], (.list 6 (r103.map E_api_Link)), (.list 5 (r125.map E_api_Rule))])]))) (by kernel_rfl) (rf_cons (rf_agg (rf_cons (by kernel_rfl) (rf_cons (by kernel_rfl) (rf_cons (rf_fullE (enc := E_api_Link) E_api_Link_t (b := 103) (v := (v103 + 1)) (w := (v103 + 1)) (fz := false) (xs := r103) (by kernel_rfl) rfl rfl) (rf_cons (rf_fullE (enc := E_api_Rule) E_api_Rule_t (b := 125) (v := (v125 + 1)) (w := (v125 + 1)) (fz := false) (xs := r125) (by kernel_rfl) rfl rfl) rf_nil))))) rf_nil) (by kernel_rfl) rfl) ?_
     rcases ho130 with ⟨rfl, hL130⟩ | ⟨v130, rfl, rfl⟩
     ·subst hL130
      obtain ⟨h79, H⟩ := H
      obtain ⟨y76, hy77, H⟩ := H
      have ln78 : 1 = y76.length := by rw [hy77] <;> rfl
      refine W.opH (OpIs.apENil (enc := E_api_Net) (y := (.lit (.list 4 [(.agg [.str r6_0_0, .list 2 [], (.list 6 (r103.map E_api_Link)), (.list 5 (r125.map E_api_Rule))])]))) (B := none) (n := 88) (d := 130) (v := B130.ver) (m := 4) (ys := [(r6_0_0, [], r103, r125)]) (by kernel_rfl) (by kernel_rfl) (hy77.trans (List.nil_append _)) (by first | (simp; done) | (simp at h79 ⊢; omega) | omega)) ?_
      refine W.adv 10 ?_
      exact W.to_loop (P := ref22_Clean_l0_s x0 (wi (x4 + 1)) y76 (.sref 130 (B130.ver + 1) 4 0 1) (⟨(B130.ver + 1), false, .rows 4 (y76.map E_api_Net)⟩)) (H _ _ (Opt.row (w := B130.ver) (by first | rfl | omega) ln78)) (by kernel_rfl)
     ·obtain ⟨h79, H⟩ := H
      obtain ⟨y76, hy77, H⟩ := H
      have ln78 : (r130.length + 1) = y76.length := by rw [hy77, List.length_append] <;> rfl
      refine W.opK (OpIs.apERow (enc := E_api_Net) (y := (.lit (.list 4 [(.agg [.str r6_0_0, .list 2 [], (.list 6 (r103.map E_api_Link)), (.list 5 (r125.map E_api_Rule))])]))) (n := 88) (d := 130) (dv := (v130 + 1)) (b := 130) (v := (v130 + 1)) (w := (v130 + 1)) (len := r130.length) (m := 4) (xs := r130) (ys := [(r6_0_0, [], r103, r125)]) (by kernel_rfl) (by kernel_rfl) hy77 rfl rfl h79) ?_
      refine W.adv 10 ?_
      exact W.to_loop (P := ref22_Clean_l0_s x0 (wi (x4 + 1)) y76 (.sref 130 ((v130 + 1) + 1) 4 0 (r130.length + 1)) (⟨((v130 + 1) + 1), false, .rows 4 (y76.map E_api_Net)⟩)) (H _ _ (Opt.row (w := (v130 + 1)) (by first | rfl | omega) ln78)) (by kernel_rfl)
  ·rcases ho103 with ⟨rfl, hL103⟩ | ⟨v103, rfl, rfl⟩
   ·subst hL103
    rcases ho125 with ⟨rfl, hL125⟩ | ⟨v125, rfl, rfl⟩
    ·subst hL125
     refine W.opF (OpIs.bs (t := 22) (len := 1) (is := [0]) (vs := [(.agg [.str r6_0_0, (.sref 69 (v69 + 1) 2 0 r69.length), .nilS, .nilS])]) (es := [(.agg [.str r6_0_0, (.list 2 (r69.map E_api_Node)), .nilS, .nilS])]) (d := (.lit (.list 4 [(.agg [.str r6_0_0, (.list 2 (r69.map E_api_Node)), .list 6 [], .list 5 []])]))) (by kernel_rfl) (rf_cons (rf_agg (rf_cons (by kernel_rfl) (rf_cons (rf_fullE (enc := E_api_Node) E_api_Node_t (b := 69) (v := (v69 + 1)) (w := (v69 + 1)) (fz := false) (xs := r69) (by kernel_rfl) rfl rfl) (rf_cons (by kernel_rfl) (rf_cons (by kernel_rfl) rf_nil))))) rf_nil) (by kernel_rfl) rfl) ?_
     rcases ho130 with ⟨rfl, hL130⟩ | ⟨v130, rfl, rfl⟩
     ·subst hL130
      obtain ⟨h79, H⟩ := H
      obtain ⟨y76, hy77, H⟩ := H
      have ln78 : 1 = y76.length := by rw [hy77] <;> rfl
      refine W.opH (OpIs.apENil (enc := E_api_Net) (y := (.lit (.list 4 [(.agg [.str r6_0_0, (.list 2 (r69.map E_api_Node)), .list 6 [], .list 5 []])]))) (B := none) (n := 88) (d := 130) (v := B130.ver) (m := 4) (ys := [(r6_0_0, r69, [], [])]) (by kernel_rfl) (by kernel_rfl) (hy77.trans (List.nil_append _)) (by first | (simp; done) | (simp at h79 ⊢; omega) | omega)) ?_
      refine W.adv 10 ?_
      exact W.to_loop (P := ref22_Clean_l0_s x0 (wi (x4 + 1)) y76 (.sref 130 (B130.ver + 1) 4 0 1) (⟨(B130.ver + 1), false, .rows 4 (y76.map E_api_Net)⟩)) (H _ _ (Opt.row (w := B130.ver) (by first | rfl | omega) ln78)) (by kernel_rfl)
     ·obtain ⟨h79, H⟩ := H
      obtain ⟨y76, hy77, H⟩ := H
      have ln78 : (r130.length + 1) = y76.length := by rw [hy77, List.length_append] <;> rfl
      refine W.opK (OpIs.apERow (enc := E_api_Net) (y := (.lit (.list 4 [(.agg [.str r6_0_0, (.list 2 (r69.map E_api_Node)), .list 6 [], .list 5 []])]))) (n := 88) (d := 130) (dv := (v130 + 1)) (b := 130) (v := (v130 + 1)) (w := (v130 + 1)) (len := r130.length) (m := 4) (xs := r130) (ys := [(r6_0_0, r69, [], [])]) (by kernel_rfl) (by kernel_rfl) hy77 rfl rfl h79) ?_
      refine W.adv 10 ?_
      exact W.to_loop (P := ref22_Clean_l0_s x0 (wi (x4 + 1)) y76 (.sref 130 ((v130 + 1) + 1) 4 0 (r130.length + 1)) (⟨((v130 + 1) + 1), false, .rows 4 (y76.map E_api_Net)⟩)) (H _ _ (Opt.row (w := (v130 + 1)) (by first | rfl | omega) ln78)) (by kernel_rfl)
    ·refine W.opF (OpIs.bs (t := 22) (len := 1) (is := [0]) (vs := [(.agg [.str r6_0_0, (.sref 69 (v69 + 1) 2 0 r69.length), .nilS, (.sref 125 (v125 + 1) 5 0 r125.length)])]) (es := [(.agg [.str r6_0_0, (.list 2 (r69.map E_api_Node)), .nilS, (.list 5 (r125.map E_api_Rule))])]) (d := (.lit (.list 4 [(.agg [.str r6_0_0, (.list 2 (r69.map E_api_Node)), .list 6 [], (.list 5 (r125.map E_api_Rule))])]))) (by kernel_rfl) (rf_cons (rf_agg (rf_cons (by kernel_rfl) (rf_cons (rf_fullE (enc := E_api_Node) E_api_Node_t (b := 69) (v := (v69 + 1)) (w := (v69 + 1)) (fz := false) (xs := r69) (by kernel_rfl) rfl rfl) (rf_cons (by kernel_rfl) (rf_cons (rf_fullE (enc := E_api_Rule) E_api_Rule_t (b := 125) (v := (v125 + 1)) (w := (v125 + 1)) (fz := false) (xs := r125) (by kernel_rfl) rfl rfl) rf_nil))))) rf_nil) (by kernel_rfl) rfl) ?_
     rcases ho130 with ⟨rfl, hL130⟩ | ⟨v130, rfl, rfl⟩
     ·subst hL130
      obtain ⟨h79, H⟩ := H
      obtain ⟨y76, hy77, H⟩ := H
      have ln78 : 1 = y76.length := by rw [hy77] <;> rfl
      refine W.opH (OpIs.apENil (enc := E_api_Net) (y := (.lit (.list 4 [(.agg [.str r6_0_0, (.list 2 (r69.map E_api_Node)), .list 6 [], (.list 5 (r125.map E_api_Rule))])]))) (B := none) (n := 88) (d := 130) (v := B130.ver) (m := 4) (ys := [(r6_0_0, r69, [], r125)]) (by kernel_rfl) (by kernel_rfl) (hy77.trans (List.nil_append _)) (by first | (simp; done) | (simp at h79 ⊢; omega) | omega)) ?_
      refine W.adv 10 ?_
      exact W.to_loop (P := ref22_Clean_l0_s x0 (wi (x4 + 1)) y76 (.sref 130 (B130.ver + 1) 4 0 1) (⟨(B130.ver + 1), false, .rows 4 (y76.map E_api_Net)⟩)) (H _ _ (Opt.row (w := B130.ver) (by first | rfl | omega) ln78)) (by kernel_rfl)
     ·obtain ⟨h79, H⟩ := H
      obtain ⟨y76, hy77, H⟩ := H
      have ln78 : (r130.length + 1) = y76.length := by rw [hy77, List.length_append] <;> rfl
      refine W.opK (OpIs.apERow (enc := E_api_Net) (y := (.lit (.list 4 [(.agg [.str r6_0_0, (.list 2 (r69.map E_api_Node)), .list 6 [], (.list 5 (r125.map E_api_Rule))])]))) (n := 88) (d := 130) (dv := (v130 + 1)) (b := 130) (v := (v130 + 1)) (w := (v130 + 1)) (len := r130.length) (m := 4) (xs := r130) (ys := [(r6_0_0, r69, [], r125)]) (by kernel_rfl) (by kernel_rfl) hy77 rfl rfl h79) ?_
      refine W.adv 10 ?_
      exact W.to_loop (P := ref22_Clean_l0_s x0 (wi (x4 + 1)) y76 (.sref 130 ((v130 + 1) + 1) 4 0 (r130.length + 1)) (⟨((v130 + 1) + 1), false, .rows 4 (y76.map E_api_Net)⟩)) (H _ _ (Opt.row (w := (v130 + 1)) (by first | rfl | omega) ln78)) (by kernel_rfl)
   ·rcases ho125 with ⟨rfl, hL125⟩ | ⟨v125, rfl, rfl⟩
    ·subst hL125
     refine W.opF (OpIs.bs (t := 22) (len := 1) (is := [0]) (vs := [(.agg [.str r6_0_0, (.sref 69 (v69 + 1) 2 0 r69.length), (.sref 103 (v103 + 1) 6 0 r103.length), .nilS])]) (es := [(.agg [.str r6_0_0, (.list 2 (r69.map E_api_Node)), (.list 6 (r103.map E_api_Link)), .nilS])]) (d := (.lit (.list 4 [(.agg [.str r6_0_0, (.list 2 (r69.map E_api_Node)), (.list 6 (r103.map E_api_Link)), .list 5 []])]))) (by kernel_rfl) (rf_cons (rf_agg (rf_cons (by kernel_rfl) (rf_cons (rf_fullE (enc := E_api_Node) E_api_Node_t (b := 69) (v := (v69 + 1)) (w := (v69 + 1)) (fz := false) (xs := r69) (by kernel_rfl) rfl rfl) (rf_cons (rf_fullE (enc := E_api_Link) E_api_Link_t (b := 103) (v := (v103 + 1)) (w := (v103 + 1)) (fz := false) (xs := r103) (by kernel_rfl) rfl rfl) (rf_cons (by kernel_rfl) rf_nil))))) rf_nil) (by kernel_rfl) rfl) ?_
     rcases ho130 with ⟨rfl, hL130⟩ | ⟨v130, rfl, rfl⟩
     ·subst hL130
      obtain ⟨h79, H⟩ := H
      obtain ⟨y76, hy77, H⟩ := H
      have ln78 : 1 = y76.length := by rw [hy77] <;> rfl
      refine W.opH (OpIs.apENil (enc := E_api_Net) (y := (.lit (.list 4 [(.agg [.str r6_0_0, (.list 2 (r69.map E_api_Node)), (.list 6 (r103.map E_api_Link)), .list 5 []])]))) (B := none) (n := 88) (d := 130) (v := B130.ver) (m := 4) (ys := [(r6_0_0, r69, r103, [])]) (by kernel_rfl) (by kernel_rfl) (hy77.trans (List.nil_append _)) (by first | (simp; done) | (simp at h79 ⊢; omega) | omega)) ?_
      refine W.adv 10 ?_
      exact W.to_loop (P := ref22_Clean_l0_s x0 (wi (x4 + 1)) y76 (.sref 130 (B130.ver + 1) 4 0 1) (⟨(B130.ver + 1), false, .rows 4 (y76.map E_api_Net)⟩)) (H _ _ (Opt.row (w := B130.ver) (by first | rfl | omega) ln78)) (by kernel_rfl)
     ·obtain ⟨h79, H⟩ := H
      obtain ⟨y76, hy77, H⟩ := H
      have ln78 : (r130.length + 1) = y76.length := by rw [hy77, List.length_append] <;> rfl
      refine W.opK (OpIs.apERow (enc := E_api_Net) (y := (.lit (.list 4 [(.agg [.str r6_0_0, (.list 2 (r69.map E_api_Node)), (.list 6 (r103.map E_api_Link)), .list 5 []])]))) (n := 88) (d := 130) (dv := (v130 + 1)) (b := 130) (v := (v130 + 1)) (w := (v130 + 1)) (len := r130.length) (m := 4) (xs := r130) (ys := [(r6_0_0, r69, r103, [])]) (by kernel_rfl) (by kernel_rfl) hy77 rfl rfl h79) ?_
      refine W.adv 10 ?_
      exact W.to_loop (P := ref22_Clean_l0_s x0 (wi (x4 + 1)) y76 (.sref 130 ((v130 + 1) + 1) 4 0 (r130.length + 1)) (⟨((v130 + 1) + 1), false, .rows 4 (y76.map E_api_Net)⟩)) (H _ _ (Opt.row (w := (v130 + 1)) (by first | rfl | omega) ln78)) (by kernel_rfl)
    ·refine W.opF (OpIs.bs (t := 22) (len := 1) (is := [0]) (vs := [(.agg [.str r6_0_0, (.sref 69 (v69 + 1) 2 0 r69.length), (.sref 103 (v103 + 1) 6 0 r103.length), (.sref 125 (v125 + 1) 5 0 r125.length)])]) (es := [(.agg [.str r6_0_0, (.list 2 (r69.map E_api_Node)), (.list 6 (r103.map E_api_Link)), (.list 5 (r125.map E_api_Rule))])]) (d := (.lit (.list 4 [(.agg [.str r6_0_0, (.list 2 (r69.map E_api_Node)), (.list 6 (r103.map E_api_Link)), (.list 5 (r125.map E_api_Rule))])]))) (by kernel_rfl) (rf_cons (rf_agg (rf_cons (by kernel_rfl) (rf_cons (rf_fullE (enc := E_api_Node) E_api_Node_t (b := 69) (v := (v69 + 1)) (w := (v69 + 1)) (fz := false) (xs := r69) (by kernel_rfl) rfl rfl) (rf_cons (rf_fullE (enc := E_api_Link) E_api_Link_t (b := 103) (v := (v103 + 1)) (w := (v103 + 1)) (fz := false) (xs := r103) (by kernel_rfl) rfl rfl) (rf_cons (rf_fullE (enc := E_api_Rule) E_api_Rule_t (b := 125) (v := (v125 + 1)) (w := (v125 + 1)) (fz := false) (xs := r125) (by kernel_rfl) rfl rfl) rf_nil))))) rf_nil) (by kernel_rfl) rfl) ?_
     rcases ho130 with ⟨rfl, hL130⟩ | ⟨v130, rfl, rfl⟩
     ·subst hL130
      obtain ⟨h79, H⟩ := H
      obtain ⟨y76, hy77, H⟩ := H
      have ln78 : 1 = y76.length := by rw [hy77] <;> rfl
      refine W.opH (OpIs.apENil (enc := E_api_Net) (y := (.lit (.list 4 [(.agg [.str r6_0_0, (.list 2 (r69.map E_api_Node)), (.list 6 (r103.map E_api_Link)), (.list 5 (r125.map E_api_Rule))])]))) (B := none) (n := 88) (d := 130) (v := B130.ver) (m := 4) (ys := [(r6_0_0, r69, r103, r125)]) (by kernel_rfl) (by kernel_rfl) (hy77.trans (List.nil_append _)) (by first | (simp; done) | (simp at h79 ⊢; omega) | omega)) ?_
      refine W.adv 10 ?_
      exact W.to_loop (P := ref22_Clean_l0_s x0 (wi (x4 + 1)) y76 (.sref 130 (B130.ver + 1) 4 0 1) (⟨(B130.ver + 1), false, .rows 4 (y76.map E_api_Net)⟩)) (H _ _ (Opt.row (w := B130.ver) (by first | rfl | omega) ln78)) (by kernel_rfl)
     ·obtain ⟨h79, H⟩ := H
      obtain ⟨y76, hy77, H⟩ := H
      have ln78 : (r130.length + 1) = y76.length := by rw [hy77, List.length_append] <;> rfl
      refine W.opK (OpIs.apERow (enc := E_api_Net) (y := (.lit (.list 4 [(.agg [.str r6_0_0, (.list 2 (r69.map E_api_Node)), (.list 6 (r103.map E_api_Link)), (.list 5 (r125.map E_api_Rule))])]))) (n := 88) (d := 130) (dv := (v130 + 1)) (b := 130) (v := (v130 + 1)) (w := (v130 + 1)) (len := r130.length) (m := 4) (xs := r130) (ys := [(r6_0_0, r69, r103, r125)]) (by kernel_rfl) (by kernel_rfl) hy77 rfl rfl h79) ?_
      refine W.adv 10 ?_
      exact W.to_loop (P := ref22_Clean_l0_s x0 (wi (x4 + 1)) y76 (.sref 130 ((v130 + 1) + 1) 4 0 (r130.length + 1)) (⟨((v130 + 1) + 1), false, .rows 4 (y76.map E_api_Net)⟩)) (H _ _ (Opt.row (w := (v130 + 1)) (by first | rfl | omega) ln78)) (by kernel_rfl)
theorem ref22_Clean_go {a0 : List T_api_Net} {z : List T_api_Net} (H : (ref22_Clean_l0 a0 0 ([] : List T_api_Net) z)) : ref22_Clean_R a0 z := by
 refine W.ic (zs := [(.list 4 (a0.map E_api_Net))]) Tryz.func13 (by kernel_rfl) (by kernel_rfl) (by kernel_rfl) (by kernel_rfl) ?_
 refine W.adv 18 ?_
 exact W.to_loop (P := ref22_Clean_l0_s a0 0 ([] : List T_api_Net) .nilS noBlk) (H _ _ Opt.nil) (by kernel_rfl)
theorem ref22_short_go {a0 : ByteArray} {z : ByteArray} (H : (0 ≤ (mn (a0.size : Int) 20) ∧ ((mn (a0.size : Int) 20) ≤ (a0.size : Int) ∧ (z = (a0.extract 0 (mn (a0.size : Int) 20).toNat))))) : ref22_short_R a0 z := by
 refine W.ic (zs := [.str a0]) Tryz.func14 (by kernel_rfl) (by kernel_rfl) (by kernel_rfl) (by kernel_rfl) ?_
 refine W.adv 11 ?_
 obtain ⟨h1, h2, H⟩ := H
 refine W.opS (OpIs.slT_hi (k' := .i64) (s := a0) (i := (mn (a0.size : Int) 20)) (by kernel_rfl) h1 h2) ?_
 refine W.adv 4 ?_
 exact W.fin (x := .ret) (by kernel_rfl) (Ans.of (d := (.str (a0.extract 0 (mn (a0.size : Int) 20).toNat))) (d' := (.str (a0.extract 0 (mn (a0.size : Int) 20).toNat))) (e' := (.str (a0.extract 0 (mn (a0.size : Int) 20).toNat))) (by kernel_rfl) (by kernel_rfl) (by kernel_rfl) (by rw [H]))
end Go.Proofs.YtfijdkdpcjfiaaaGreatA
