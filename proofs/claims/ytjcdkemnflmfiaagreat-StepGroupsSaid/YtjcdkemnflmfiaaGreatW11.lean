/- Walks through the functions: what makes each relation true. -/
import Derived.Test.YtjcdkemnflmfiaaGreatW0
set_option linter.unusedVariables false
set_option maxRecDepth 100000
namespace Go.Proofs.YtjcdkemnflmfiaaGreatA
open Go Go.Proofs
noncomputable def ref22_CleanRule_l0_s (x4 : Int) (r1_0_0 : ByteArray) (r1_0_1 : Int) (r1_0_2 : Int) (r1_0_3 : Bool) (r1_0_4 : List T71) (r2_0_0 : ByteArray) (r2_0_1 : Int) (r2_0_2 : Int) (r2_0_3 : Bool) (r3_0_0 : ByteArray) (r3_0_1 : Int) (r3_0_2 : Int) (r3_0_3 : Bool) (j : Nat → D) (jb : Nat → Blk) (vs : Nat → Nat) : Cf := cfAt Tryz.f16 [1, 1, 0, 1, 0] ⟨[j 0, .pref 1 1 0 0, .pref 2 1 0 0, .pref 3 1 0 0, .int .i64 x4, j 5, j 6, j 7, j 8, j 9, j 10, j 11, j 12, j 13, j 14, j 15, j 16, j 17, j 18, j 19, j 20, j 21, j 22, j 23, j 24, j 25, j 26, j 27, j 28, j 29, j 30, j 31, j 32, j 33, j 34, j 35, j 36, j 37, j 38, j 39, j 40, j 41, j 42, j 43, j 44, j 45, j 46, j 47, j 48, j 49, j 50, j 51, j 52, j 53, j 54, j 55, j 56, j 57, j 58, j 59, j 60, j 61, j 62, j 63, j 64, j 65, j 66, j 67, j 68, j 69, j 70, j 71, j 72, j 73, j 74, j 75, j 76, j 77, j 78], [jb 0, ⟨1, false, .rows 5 [(.agg [.str r1_0_0, .int .u32 r1_0_1, .int .i64 r1_0_2, .bool r1_0_3, (.list 1 (r1_0_4.map E71))])]⟩, ⟨1, false, .rows 5 [(.agg [.str r2_0_0, .int .u32 r2_0_1, .int .i64 r2_0_2, .bool r2_0_3, .nilS])]⟩, ⟨1, false, .rows 5 [(.agg [.str r3_0_0, .int .u32 r3_0_1, .int .i64 r3_0_2, .bool r3_0_3, .nilS])]⟩, jb 4, jb 5, jb 6, jb 7, jb 8, jb 9, jb 10, jb 11, jb 12, jb 13, jb 14, jb 15, jb 16, jb 17, jb 18, jb 19, jb 20, jb 21, jb 22, jb 23, jb 24, jb 25, jb 26, jb 27, jb 28, jb 29, jb 30, jb 31, jb 32, jb 33, jb 34, jb 35, jb 36, jb 37, jb 38, jb 39, jb 40, jb 41, jb 42, jb 43, jb 44, jb 45, jb 46, jb 47, jb 48, jb 49, jb 50, jb 51, jb 52, jb 53, jb 54, jb 55, jb 56, jb 57, jb 58, jb 59, jb 60, jb 61, jb 62, jb 63, jb 64, jb 65, jb 66, jb 67, jb 68, jb 69, jb 70, jb 71, jb 72, jb 73, jb 74, jb 75, jb 76, jb 77, jb 78]⟩
def ref22_CleanRule_l0 (x4 : Int) (r1_0_0 : ByteArray) (r1_0_1 : Int) (r1_0_2 : Int) (r1_0_3 : Bool) (r1_0_4 : List T71) (r2_0_0 : ByteArray) (r2_0_1 : Int) (r2_0_2 : Int) (r2_0_3 : Bool) (r3_0_0 : ByteArray) (r3_0_1 : Int) (r3_0_2 : Int) (r3_0_3 : Bool) (z_0 : ByteArray) (z_1 : Int) (z_2 : Int) (z_3 : Bool) (z_4 : List T71) : Prop := ∀ j jb vs, W C F 16 0 (ref22_CleanRule_l0_s x4 r1_0_0 r1_0_1 r1_0_2 r1_0_3 r1_0_4 r2_0_0 r2_0_1 r2_0_2 r2_0_3 r3_0_0 r3_0_1 r3_0_2 r3_0_3  j jb vs) (Ans C Tryz.f16 (.agg [.str z_0, .int .u32 z_1, .int .i64 z_2, .bool z_3, (.list 1 (z_4.map E71))]))
noncomputable def ref22_CleanRule_l1_s (x4 : Int) (x6 : Int) (r1_0_0 : ByteArray) (r1_0_1 : Int) (r1_0_2 : Int) (r1_0_3 : Bool) (r1_0_4 : List T71) (r2_0_0 : ByteArray) (r2_0_1 : Int) (r2_0_2 : Int) (r2_0_3 : Bool) (r3_0_0 : ByteArray) (r3_0_1 : Int) (r3_0_2 : Int) (r3_0_3 : Bool) (j : Nat → D) (jb : Nat → Blk) (vs : Nat → Nat) : Cf := cfAt Tryz.f16 [1, 1, 0, 1, 0, 0, 1, 0, 0, 1, 0, 1, 0] ⟨[j 0, .pref 1 1 0 0, .pref 2 1 0 0, .pref 3 1 0 0, .int .i64 x4, .nilS, .int .i64 x6, j 7, j 8, j 9, j 10, j 11, j 12, j 13, j 14, j 15, j 16, j 17, j 18, j 19, j 20, j 21, j 22, j 23, j 24, j 25, j 26, j 27, j 28, j 29, j 30, j 31, j 32, j 33, j 34, j 35, j 36, j 37, j 38, j 39, j 40, j 41, j 42, j 43, j 44, j 45, j 46, j 47, j 48, j 49, j 50, j 51, j 52, j 53, j 54, j 55, j 56, j 57, j 58, j 59, j 60, j 61, j 62, j 63, j 64, j 65, j 66, j 67, j 68, j 69, j 70, j 71, j 72, j 73, j 74, j 75, j 76, j 77, j 78], [jb 0, ⟨1, false, .rows 5 [(.agg [.str r1_0_0, .int .u32 r1_0_1, .int .i64 r1_0_2, .bool r1_0_3, (.list 1 (r1_0_4.map E71))])]⟩, ⟨1, false, .rows 5 [(.agg [.str r2_0_0, .int .u32 r2_0_1, .int .i64 r2_0_2, .bool r2_0_3, .nilS])]⟩, ⟨1, false, .rows 5 [(.agg [.str r3_0_0, .int .u32 r3_0_1, .int .i64 r3_0_2, .bool r3_0_3, .nilS])]⟩, jb 4, jb 5, jb 6, jb 7, jb 8, jb 9, jb 10, jb 11, jb 12, jb 13, jb 14, jb 15, jb 16, jb 17, jb 18, jb 19, jb 20, jb 21, jb 22, jb 23, jb 24, jb 25, jb 26, jb 27, jb 28, jb 29, jb 30, jb 31, jb 32, jb 33, jb 34, jb 35, jb 36, jb 37, jb 38, jb 39, jb 40, jb 41, jb 42, jb 43, jb 44, jb 45, jb 46, jb 47, jb 48, jb 49, jb 50, jb 51, jb 52, jb 53, jb 54, jb 55, jb 56, jb 57, jb 58, jb 59, jb 60, jb 61, jb 62, jb 63, jb 64, jb 65, jb 66, jb 67, jb 68, jb 69, jb 70, jb 71, jb 72, jb 73, jb 74, jb 75, jb 76, jb 77, jb 78]⟩
def ref22_CleanRule_l1 (x4 : Int) (x6 : Int) (r1_0_0 : ByteArray) (r1_0_1 : Int) (r1_0_2 : Int) (r1_0_3 : Bool) (r1_0_4 : List T71) (r2_0_0 : ByteArray) (r2_0_1 : Int) (r2_0_2 : Int) (r2_0_3 : Bool) (r3_0_0 : ByteArray) (r3_0_1 : Int) (r3_0_2 : Int) (r3_0_3 : Bool) (z_0 : ByteArray) (z_1 : Int) (z_2 : Int) (z_3 : Bool) (z_4 : List T71) : Prop := ∀ j jb vs, W C F 16 0 (ref22_CleanRule_l1_s x4 x6 r1_0_0 r1_0_1 r1_0_2 r1_0_3 r1_0_4 r2_0_0 r2_0_1 r2_0_2 r2_0_3 r3_0_0 r3_0_1 r3_0_2 r3_0_3  j jb vs) (Ans C Tryz.f16 (.agg [.str z_0, .int .u32 z_1, .int .i64 z_2, .bool z_3, (.list 1 (z_4.map E71))]))
noncomputable def ref22_CleanRule_l2_s (x4 : Int) (x6 : Int) (r1_0_0 : ByteArray) (r1_0_1 : Int) (r1_0_2 : Int) (r1_0_3 : Bool) (r1_0_4 : List T71) (r2_0_0 : ByteArray) (r2_0_1 : Int) (r2_0_2 : Int) (r2_0_3 : Bool) (r3_0_0 : ByteArray) (r3_0_1 : Int) (r3_0_2 : Int) (r3_0_3 : Bool) (r71 : List T_api_Hop) (n71 : Nat) (j : Nat → D) (jb : Nat → Blk) (vs : Nat → Nat) : Cf := cfAt Tryz.f16 [1, 1, 0, 1, 0, 0, 1, 0, 0, 1, 0, 1, 0] ⟨[j 0, .pref 1 1 0 0, .pref 2 1 0 0, .pref 3 1 0 0, .int .i64 x4, (.sref 71 ((vs 71) + 1) 2 0 n71), .int .i64 x6, j 7, j 8, j 9, j 10, j 11, j 12, j 13, j 14, j 15, j 16, j 17, j 18, j 19, j 20, j 21, j 22, j 23, j 24, j 25, j 26, j 27, j 28, j 29, j 30, j 31, j 32, j 33, j 34, j 35, j 36, j 37, j 38, j 39, j 40, j 41, j 42, j 43, j 44, j 45, j 46, j 47, j 48, j 49, j 50, j 51, j 52, j 53, j 54, j 55, j 56, j 57, j 58, j 59, j 60, j 61, j 62, j 63, j 64, j 65, j 66, j 67, j 68, j 69, j 70, j 71, j 72, j 73, j 74, j 75, j 76, j 77, j 78], [jb 0, ⟨1, false, .rows 5 [(.agg [.str r1_0_0, .int .u32 r1_0_1, .int .i64 r1_0_2, .bool r1_0_3, (.list 1 (r1_0_4.map E71))])]⟩, ⟨1, false, .rows 5 [(.agg [.str r2_0_0, .int .u32 r2_0_1, .int .i64 r2_0_2, .bool r2_0_3, .nilS])]⟩, ⟨1, false, .rows 5 [(.agg [.str r3_0_0, .int .u32 r3_0_1, .int .i64 r3_0_2, .bool r3_0_3, .nilS])]⟩, jb 4, jb 5, jb 6, jb 7, jb 8, jb 9, jb 10, jb 11, jb 12, jb 13, jb 14, jb 15, jb 16, jb 17, jb 18, jb 19, jb 20, jb 21, jb 22, jb 23, jb 24, jb 25, jb 26, jb 27, jb 28, jb 29, jb 30, jb 31, jb 32, jb 33, jb 34, jb 35, jb 36, jb 37, jb 38, jb 39, jb 40, jb 41, jb 42, jb 43, jb 44, jb 45, jb 46, jb 47, jb 48, jb 49, jb 50, jb 51, jb 52, jb 53, jb 54, jb 55, jb 56, jb 57, jb 58, jb 59, jb 60, jb 61, jb 62, jb 63, jb 64, jb 65, jb 66, jb 67, jb 68, jb 69, jb 70, ⟨((vs 71) + 1), false, .rows 2 (r71.map E_api_Hop)⟩, jb 72, jb 73, jb 74, jb 75, jb 76, jb 77, jb 78]⟩
def ref22_CleanRule_l2 (x4 : Int) (x6 : Int) (r1_0_0 : ByteArray) (r1_0_1 : Int) (r1_0_2 : Int) (r1_0_3 : Bool) (r1_0_4 : List T71) (r2_0_0 : ByteArray) (r2_0_1 : Int) (r2_0_2 : Int) (r2_0_3 : Bool) (r3_0_0 : ByteArray) (r3_0_1 : Int) (r3_0_2 : Int) (r3_0_3 : Bool) (r71 : List T_api_Hop) (z_0 : ByteArray) (z_1 : Int) (z_2 : Int) (z_3 : Bool) (z_4 : List T71) : Prop := ∀ n71, n71 = r71.length → ∀ j jb vs, W C F 16 0 (ref22_CleanRule_l2_s x4 x6 r1_0_0 r1_0_1 r1_0_2 r1_0_3 r1_0_4 r2_0_0 r2_0_1 r2_0_2 r2_0_3 r3_0_0 r3_0_1 r3_0_2 r3_0_3 r71 n71 j jb vs) (Ans C Tryz.f16 (.agg [.str z_0, .int .u32 z_1, .int .i64 z_2, .bool z_3, (.list 1 (z_4.map E71))]))
noncomputable def ref22_CleanRule_l3_s (x4 : Int) (r1_0_0 : ByteArray) (r1_0_1 : Int) (r1_0_2 : Int) (r1_0_3 : Bool) (r1_0_4 : List T71) (r2_0_0 : ByteArray) (r2_0_1 : Int) (r2_0_2 : Int) (r2_0_3 : Bool) (r3_0_0 : ByteArray) (r3_0_1 : Int) (r3_0_2 : Int) (r3_0_3 : Bool) (r76 : List T71) (n76 : Nat) (j : Nat → D) (jb : Nat → Blk) (vs : Nat → Nat) : Cf := cfAt Tryz.f16 [1, 1, 0, 1, 0] ⟨[j 0, .pref 1 1 0 0, .pref 2 1 0 0, .pref 3 1 0 0, .int .i64 x4, j 5, j 6, j 7, j 8, j 9, j 10, j 11, j 12, j 13, j 14, j 15, j 16, j 17, j 18, j 19, j 20, j 21, j 22, j 23, j 24, j 25, j 26, j 27, j 28, j 29, j 30, j 31, j 32, j 33, j 34, j 35, j 36, j 37, j 38, j 39, j 40, j 41, j 42, j 43, j 44, j 45, j 46, j 47, j 48, j 49, j 50, j 51, j 52, j 53, j 54, j 55, j 56, j 57, j 58, j 59, j 60, j 61, j 62, j 63, j 64, j 65, j 66, j 67, j 68, j 69, j 70, j 71, j 72, j 73, j 74, j 75, j 76, j 77, j 78], [jb 0, ⟨1, false, .rows 5 [(.agg [.str r1_0_0, .int .u32 r1_0_1, .int .i64 r1_0_2, .bool r1_0_3, (.list 1 (r1_0_4.map E71))])]⟩, ⟨1, false, .rows 5 [(.agg [.str r2_0_0, .int .u32 r2_0_1, .int .i64 r2_0_2, .bool r2_0_3, .nilS])]⟩, ⟨1, false, .rows 5 [(.agg [.str r3_0_0, .int .u32 r3_0_1, .int .i64 r3_0_2, .bool r3_0_3, (.sref 76 ((vs 76) + 1) 1 0 n76)])]⟩, jb 4, jb 5, jb 6, jb 7, jb 8, jb 9, jb 10, jb 11, jb 12, jb 13, jb 14, jb 15, jb 16, jb 17, jb 18, jb 19, jb 20, jb 21, jb 22, jb 23, jb 24, jb 25, jb 26, jb 27, jb 28, jb 29, jb 30, jb 31, jb 32, jb 33, jb 34, jb 35, jb 36, jb 37, jb 38, jb 39, jb 40, jb 41, jb 42, jb 43, jb 44, jb 45, jb 46, jb 47, jb 48, jb 49, jb 50, jb 51, jb 52, jb 53, jb 54, jb 55, jb 56, jb 57, jb 58, jb 59, jb 60, jb 61, jb 62, jb 63, jb 64, jb 65, jb 66, jb 67, jb 68, jb 69, jb 70, jb 71, jb 72, jb 73, jb 74, jb 75, ⟨((vs 76) + 1), false, .rows 1 (r76.map E71)⟩, jb 77, jb 78]⟩
def ref22_CleanRule_l3 (x4 : Int) (r1_0_0 : ByteArray) (r1_0_1 : Int) (r1_0_2 : Int) (r1_0_3 : Bool) (r1_0_4 : List T71) (r2_0_0 : ByteArray) (r2_0_1 : Int) (r2_0_2 : Int) (r2_0_3 : Bool) (r3_0_0 : ByteArray) (r3_0_1 : Int) (r3_0_2 : Int) (r3_0_3 : Bool) (r76 : List T71) (z_0 : ByteArray) (z_1 : Int) (z_2 : Int) (z_3 : Bool) (z_4 : List T71) : Prop := ∀ n76, n76 = r76.length → ∀ j jb vs, W C F 16 0 (ref22_CleanRule_l3_s x4 r1_0_0 r1_0_1 r1_0_2 r1_0_3 r1_0_4 r2_0_0 r2_0_1 r2_0_2 r2_0_3 r3_0_0 r3_0_1 r3_0_2 r3_0_3 r76 n76 j jb vs) (Ans C Tryz.f16 (.agg [.str z_0, .int .u32 z_1, .int .i64 z_2, .bool z_3, (.list 1 (z_4.map E71))]))
noncomputable def ref22_CleanRule_l4_s (x4 : Int) (x6 : Int) (r1_0_0 : ByteArray) (r1_0_1 : Int) (r1_0_2 : Int) (r1_0_3 : Bool) (r1_0_4 : List T71) (r2_0_0 : ByteArray) (r2_0_1 : Int) (r2_0_2 : Int) (r2_0_3 : Bool) (r3_0_0 : ByteArray) (r3_0_1 : Int) (r3_0_2 : Int) (r3_0_3 : Bool) (r76 : List T71) (n76 : Nat) (j : Nat → D) (jb : Nat → Blk) (vs : Nat → Nat) : Cf := cfAt Tryz.f16 [1, 1, 0, 1, 0, 0, 1, 0, 0, 1, 0, 1, 0] ⟨[j 0, .pref 1 1 0 0, .pref 2 1 0 0, .pref 3 1 0 0, .int .i64 x4, .nilS, .int .i64 x6, j 7, j 8, j 9, j 10, j 11, j 12, j 13, j 14, j 15, j 16, j 17, j 18, j 19, j 20, j 21, j 22, j 23, j 24, j 25, j 26, j 27, j 28, j 29, j 30, j 31, j 32, j 33, j 34, j 35, j 36, j 37, j 38, j 39, j 40, j 41, j 42, j 43, j 44, j 45, j 46, j 47, j 48, j 49, j 50, j 51, j 52, j 53, j 54, j 55, j 56, j 57, j 58, j 59, j 60, j 61, j 62, j 63, j 64, j 65, j 66, j 67, j 68, j 69, j 70, j 71, j 72, j 73, j 74, j 75, j 76, j 77, j 78], [jb 0, ⟨1, false, .rows 5 [(.agg [.str r1_0_0, .int .u32 r1_0_1, .int .i64 r1_0_2, .bool r1_0_3, (.list 1 (r1_0_4.map E71))])]⟩, ⟨1, false, .rows 5 [(.agg [.str r2_0_0, .int .u32 r2_0_1, .int .i64 r2_0_2, .bool r2_0_3, .nilS])]⟩, ⟨1, false, .rows 5 [(.agg [.str r3_0_0, .int .u32 r3_0_1, .int .i64 r3_0_2, .bool r3_0_3, (.sref 76 ((vs 76) + 1) 1 0 n76)])]⟩, jb 4, jb 5, jb 6, jb 7, jb 8, jb 9, jb 10, jb 11, jb 12, jb 13, jb 14, jb 15, jb 16, jb 17, jb 18, jb 19, jb 20, jb 21, jb 22, jb 23, jb 24, jb 25, jb 26, jb 27, jb 28, jb 29, jb 30, jb 31, jb 32, jb 33, jb 34, jb 35, jb 36, jb 37, jb 38, jb 39, jb 40, jb 41, jb 42, jb 43, jb 44, jb 45, jb 46, jb 47, jb 48, jb 49, jb 50, jb 51, jb 52, jb 53, jb 54, jb 55, jb 56, jb 57, jb 58, jb 59, jb 60, jb 61, jb 62, jb 63, jb 64, jb 65, jb 66, jb 67, jb 68, jb 69, jb 70, jb 71, jb 72, jb 73, jb 74, jb 75, ⟨((vs 76) + 1), false, .rows 1 (r76.map E71)⟩, jb 77, jb 78]⟩
def ref22_CleanRule_l4 (x4 : Int) (x6 : Int) (r1_0_0 : ByteArray) (r1_0_1 : Int) (r1_0_2 : Int) (r1_0_3 : Bool) (r1_0_4 : List T71) (r2_0_0 : ByteArray) (r2_0_1 : Int) (r2_0_2 : Int) (r2_0_3 : Bool) (r3_0_0 : ByteArray) (r3_0_1 : Int) (r3_0_2 : Int) (r3_0_3 : Bool) (r76 : List T71) (z_0 : ByteArray) (z_1 : Int) (z_2 : Int) (z_3 : Bool) (z_4 : List T71) : Prop := ∀ n76, n76 = r76.length → ∀ j jb vs, W C F 16 0 (ref22_CleanRule_l4_s x4 x6 r1_0_0 r1_0_1 r1_0_2 r1_0_3 r1_0_4 r2_0_0 r2_0_1 r2_0_2 r2_0_3 r3_0_0 r3_0_1 r3_0_2 r3_0_3 r76 n76 j jb vs) (Ans C Tryz.f16 (.agg [.str z_0, .int .u32 z_1, .int .i64 z_2, .bool z_3, (.list 1 (z_4.map E71))]))
noncomputable def ref22_CleanRule_l5_s (x4 : Int) (x6 : Int) (r1_0_0 : ByteArray) (r1_0_1 : Int) (r1_0_2 : Int) (r1_0_3 : Bool) (r1_0_4 : List T71) (r2_0_0 : ByteArray) (r2_0_1 : Int) (r2_0_2 : Int) (r2_0_3 : Bool) (r3_0_0 : ByteArray) (r3_0_1 : Int) (r3_0_2 : Int) (r3_0_3 : Bool) (r71 : List T_api_Hop) (r76 : List T71) (n71 : Nat) (n76 : Nat) (j : Nat → D) (jb : Nat → Blk) (vs : Nat → Nat) : Cf := cfAt Tryz.f16 [1, 1, 0, 1, 0, 0, 1, 0, 0, 1, 0, 1, 0] ⟨[j 0, .pref 1 1 0 0, .pref 2 1 0 0, .pref 3 1 0 0, .int .i64 x4, (.sref 71 ((vs 71) + 1) 2 0 n71), .int .i64 x6, j 7, j 8, j 9, j 10, j 11, j 12, j 13, j 14, j 15, j 16, j 17, j 18, j 19, j 20, j 21, j 22, j 23, j 24, j 25, j 26, j 27, j 28, j 29, j 30, j 31, j 32, j 33, j 34, j 35, j 36, j 37, j 38, j 39, j 40, j 41, j 42, j 43, j 44, j 45, j 46, j 47, j 48, j 49, j 50, j 51, j 52, j 53, j 54, j 55, j 56, j 57, j 58, j 59, j 60, j 61, j 62, j 63, j 64, j 65, j 66, j 67, j 68, j 69, j 70, j 71, j 72, j 73, j 74, j 75, j 76, j 77, j 78], [jb 0, ⟨1, false, .rows 5 [(.agg [.str r1_0_0, .int .u32 r1_0_1, .int .i64 r1_0_2, .bool r1_0_3, (.list 1 (r1_0_4.map E71))])]⟩, ⟨1, false, .rows 5 [(.agg [.str r2_0_0, .int .u32 r2_0_1, .int .i64 r2_0_2, .bool r2_0_3, .nilS])]⟩, ⟨1, false, .rows 5 [(.agg [.str r3_0_0, .int .u32 r3_0_1, .int .i64 r3_0_2, .bool r3_0_3, (.sref 76 ((vs 76) + 1) 1 0 n76)])]⟩, jb 4, jb 5, jb 6, jb 7, jb 8, jb 9, jb 10, jb 11, jb 12, jb 13, jb 14, jb 15, jb 16, jb 17, jb 18, jb 19, jb 20, jb 21, jb 22, jb 23, jb 24, jb 25, jb 26, jb 27, jb 28, jb 29, jb 30, jb 31, jb 32, jb 33, jb 34, jb 35, jb 36, jb 37, jb 38, jb 39, jb 40, jb 41, jb 42, jb 43, jb 44, jb 45, jb 46, jb 47, jb 48, jb 49, jb 50, jb 51, jb 52, jb 53, jb 54, jb 55, jb 56, jb 57, jb 58, jb 59, jb 60, jb 61, jb 62, jb 63, jb 64, jb 65, jb 66, jb 67, jb 68, jb 69, jb 70, ⟨((vs 71) + 1), false, .rows 2 (r71.map E_api_Hop)⟩, jb 72, jb 73, jb 74, jb 75, ⟨((vs 76) + 1), false, .rows 1 (r76.map E71)⟩, jb 77, jb 78]⟩
def ref22_CleanRule_l5 (x4 : Int) (x6 : Int) (r1_0_0 : ByteArray) (r1_0_1 : Int) (r1_0_2 : Int) (r1_0_3 : Bool) (r1_0_4 : List T71) (r2_0_0 : ByteArray) (r2_0_1 : Int) (r2_0_2 : Int) (r2_0_3 : Bool) (r3_0_0 : ByteArray) (r3_0_1 : Int) (r3_0_2 : Int) (r3_0_3 : Bool) (r71 : List T_api_Hop) (r76 : List T71) (z_0 : ByteArray) (z_1 : Int) (z_2 : Int) (z_3 : Bool) (z_4 : List T71) : Prop := ∀ n71, n71 = r71.length → ∀ n76, n76 = r76.length → ∀ j jb vs, W C F 16 0 (ref22_CleanRule_l5_s x4 x6 r1_0_0 r1_0_1 r1_0_2 r1_0_3 r1_0_4 r2_0_0 r2_0_1 r2_0_2 r2_0_3 r3_0_0 r3_0_1 r3_0_2 r3_0_3 r71 r76 n71 n76 j jb vs) (Ans C Tryz.f16 (.agg [.str z_0, .int .u32 z_1, .int .i64 z_2, .bool z_3, (.list 1 (z_4.map E71))]))
theorem ref22_CleanRule_l0_go {x4 : Int} {r1_0_0 : ByteArray} {r1_0_1 : Int} {r1_0_2 : Int} {r1_0_3 : Bool} {r1_0_4 : List T71} {r2_0_0 : ByteArray} {r2_0_1 : Int} {r2_0_2 : Int} {r2_0_3 : Bool} {r3_0_0 : ByteArray} {r3_0_1 : Int} {r3_0_2 : Int} {r3_0_3 : Bool} {z_0 : ByteArray} {z_1 : Int} {z_2 : Int} {z_3 : Bool} {z_4 : List T71} (H : ((x4 < (r1_0_4.length : Int) ∧ ((x4 < 4 ∧ (ref22_CleanRule_l1 x4 0 r1_0_0 r1_0_1 r1_0_2 r1_0_3 r1_0_4 r2_0_0 r2_0_1 r2_0_2 r2_0_3 r3_0_0 r3_0_1 r3_0_2 r3_0_3 z_0 z_1 z_2 z_3 z_4)) ∨ (¬ x4 < 4 ∧ (z_0 = r3_0_0 ∧ z_1 = r3_0_1 ∧ z_2 = r3_0_2 ∧ z_3 = r3_0_3 ∧ z_4 = ([] : List T71))))) ∨ (¬ x4 < (r1_0_4.length : Int) ∧ (z_0 = r3_0_0 ∧ z_1 = r3_0_1 ∧ z_2 = r3_0_2 ∧ z_3 = r3_0_3 ∧ z_4 = ([] : List T71))))) : ref22_CleanRule_l0 x4 r1_0_0 r1_0_1 r1_0_2 r1_0_3 r1_0_4 r2_0_0 r2_0_1 r2_0_2 r2_0_3 r3_0_0 r3_0_1 r3_0_2 r3_0_3 z_0 z_1 z_2 z_3 z_4 := by
 intro j jb vs
 refine W.adv 1 ?_
 refine W.adv 6 ?_
 refine W.opS (OpIs.ln (n := (r1_0_4.map E71).length) (m := r1_0_4.length) (by kernel_rfl) (by rw [List.length_map])) ?_
 refine W.adv 2 ?_
 rcases H with ⟨h3, H⟩ | ⟨h3, H⟩
 ·refine W.guard true (w := ((decide (x4 < (r1_0_4.length : Int))) == true)) (by kernel_rfl) (congrArg (fun b => b == true) (decide_eq_true h3)) ?_
  refine W.adv 1 ?_
  refine W.guard true (w := ((decide (x4 < (r1_0_4.length : Int))) == true)) (by kernel_rfl) (congrArg (fun b => b == true) (decide_eq_true h3)) ?_
  refine W.adv 1 ?_
  refine W.opS (OpIs.pk true (t := (decide (x4 < (r1_0_4.length : Int)))) (x := (.bool (decide (x4 < 4)))) (y := (.bool false)) (by kernel_rfl) (decide_eq_true h3)) ?_
  refine W.adv 2 ?_
  rcases H with ⟨h4, H⟩ | ⟨h4, H⟩
  ·refine W.cond true (w := (decide (x4 < 4))) (by kernel_rfl) (decide_eq_true h4) ?_
   refine W.adv 17 ?_
   exact W.to_loop (P := ref22_CleanRule_l1_s x4 0 r1_0_0 r1_0_1 r1_0_2 r1_0_3 r1_0_4 r2_0_0 r2_0_1 r2_0_2 r2_0_3 r3_0_0 r3_0_1 r3_0_2 r3_0_3) (H ) (by kernel_rfl)
  ·refine W.cond false (w := (decide (x4 < 4))) (by kernel_rfl) (decide_eq_false h4) ?_
   refine W.adv 12 ?_
   exact W.fin (x := .ret) (by kernel_rfl) (Ans.of (d := (.agg [.str r3_0_0, .int .u32 r3_0_1, .int .i64 r3_0_2, .bool r3_0_3, .nilS])) (d' := (.agg [.str r3_0_0, .int .u32 r3_0_1, .int .i64 r3_0_2, .bool r3_0_3, .nilS])) (e' := (.agg [.str r3_0_0, .int .u32 r3_0_1, .int .i64 r3_0_2, .bool r3_0_3, (.list 1 (([] : List T71).map E71))])) (by kernel_rfl) (by kernel_rfl) (by kernel_rfl) (by rw [H.1, H.2.1, H.2.2.1, H.2.2.2.1, H.2.2.2.2]))
 ·refine W.guard false (w := ((decide (x4 < (r1_0_4.length : Int))) == true)) (by kernel_rfl) (congrArg (fun b => b == true) (decide_eq_false h3)) ?_
  refine W.guard false (w := ((decide (x4 < (r1_0_4.length : Int))) == true)) (by kernel_rfl) (congrArg (fun b => b == true) (decide_eq_false h3)) ?_
  refine W.opS (OpIs.pk false (t := (decide (x4 < (r1_0_4.length : Int)))) (x := (.tuple [])) (y := (.bool false)) (by kernel_rfl) (decide_eq_false h3)) ?_
  refine W.adv 15 ?_
  exact W.fin (x := .ret) (by kernel_rfl) (Ans.of (d := (.agg [.str r3_0_0, .int .u32 r3_0_1, .int .i64 r3_0_2, .bool r3_0_3, .nilS])) (d' := (.agg [.str r3_0_0, .int .u32 r3_0_1, .int .i64 r3_0_2, .bool r3_0_3, .nilS])) (e' := (.agg [.str r3_0_0, .int .u32 r3_0_1, .int .i64 r3_0_2, .bool r3_0_3, (.list 1 (([] : List T71).map E71))])) (by kernel_rfl) (by kernel_rfl) (by kernel_rfl) (by rw [H.1, H.2.1, H.2.2.1, H.2.2.2.1, H.2.2.2.2]))
theorem ref22_CleanRule_l1_go {x4 : Int} {x6 : Int} {r1_0_0 : ByteArray} {r1_0_1 : Int} {r1_0_2 : Int} {r1_0_3 : Bool} {r1_0_4 : List T71} {r2_0_0 : ByteArray} {r2_0_1 : Int} {r2_0_2 : Int} {r2_0_3 : Bool} {r3_0_0 : ByteArray} {r3_0_1 : Int} {r3_0_2 : Int} {r3_0_3 : Bool} {z_0 : ByteArray} {z_1 : Int} {z_2 : Int} {z_3 : Bool} {z_4 : List T71} (H : (0 ≤ x4 ∧ (x4 < (r1_0_4.length : Int) ∧ ((x6 < ((r1_0_4.getD (x4).toNat []).length : Int) ∧ ((x6 < 5 ∧ (0 ≤ x6 ∧ (∃ e10 : ByteArray, (∃ e11 : Int, ((r1_0_4.getD (x4).toNat []).getD (x6).toNat (ByteArray.empty, 0) = (e10, e11) ∧ ((e11 < (-1000000) ∧ (∃ e14 : ByteArray, (∃ e15 : Int, ((r1_0_4.getD (x4).toNat []).getD (x6).toNat (ByteArray.empty, 0) = (e14, e15) ∧ (∃ c17 : ByteArray, (ref22_short_R e14 c17 ∧ ((1 + 192) * (24 + 1) ≤ 70368744177664 ∧ (∃ y19 : List T_api_Hop, y19 = [(c17, 2)] ∧ (ref22_CleanRule_l2 x4 (wi (x6 + 1)) r1_0_0 r1_0_1 r1_0_2 r1_0_3 r1_0_4 r2_0_0 r2_0_1 r2_0_2 r2_0_3 r3_0_0 r3_0_1 r3_0_2 r3_0_3 y19 z_0 z_1 z_2 z_3 z_4))))))))) ∨ (¬ e11 < (-1000000) ∧ ((2147483648 < e11 ∧ (∃ e24 : ByteArray, (∃ e25 : Int, ((r1_0_4.getD (x4).toNat []).getD (x6).toNat (ByteArray.empty, 0) = (e24, e25) ∧ (∃ c27 : ByteArray, (ref22_short_R e24 c27 ∧ ((1 + 192) * (24 + 1) ≤ 70368744177664 ∧ (∃ y29 : List T_api_Hop, y29 = [(c27, 2)] ∧ (ref22_CleanRule_l2 x4 (wi (x6 + 1)) r1_0_0 r1_0_1 r1_0_2 r1_0_3 r1_0_4 r2_0_0 r2_0_1 r2_0_2 r2_0_3 r3_0_0 r3_0_1 r3_0_2 r3_0_3 y29 z_0 z_1 z_2 z_3 z_4))))))))) ∨ (¬ 2147483648 < e11 ∧ (∃ e33 : ByteArray, (∃ e34 : Int, ((r1_0_4.getD (x4).toNat []).getD (x6).toNat (ByteArray.empty, 0) = (e33, e34) ∧ (∃ c36 : ByteArray, (ref22_short_R e33 c36 ∧ ((1 + 192) * (24 + 1) ≤ 70368744177664 ∧ (∃ y38 : List T_api_Hop, y38 = [(c36, e11)] ∧ (ref22_CleanRule_l2 x4 (wi (x6 + 1)) r1_0_0 r1_0_1 r1_0_2 r1_0_3 r1_0_4 r2_0_0 r2_0_1 r2_0_2 r2_0_3 r3_0_0 r3_0_1 r3_0_2 r3_0_3 y38 z_0 z_1 z_2 z_3 z_4))))))))))))))))) ∨ (¬ x6 < 5 ∧ ((1 + 192) * (24 + 1) ≤ 70368744177664 ∧ (∃ y42 : List T71, y42 = [[]] ∧ (ref22_CleanRule_l3 (wi (x4 + 1)) r1_0_0 r1_0_1 r1_0_2 r1_0_3 r1_0_4 r2_0_0 r2_0_1 r2_0_2 r2_0_3 r3_0_0 r3_0_1 r3_0_2 r3_0_3 y42 z_0 z_1 z_2 z_3 z_4)))))) ∨ (¬ x6 < ((r1_0_4.getD (x4).toNat []).length : Int) ∧ ((1 + 192) * (24 + 1) ≤ 70368744177664 ∧ (∃ y46 : List T71, y46 = [[]] ∧ (ref22_CleanRule_l3 (wi (x4 + 1)) r1_0_0 r1_0_1 r1_0_2 r1_0_3 r1_0_4 r2_0_0 r2_0_1 r2_0_2 r2_0_3 r3_0_0 r3_0_1 r3_0_2 r3_0_3 y46 z_0 z_1 z_2 z_3 z_4)))))))) : ref22_CleanRule_l1 x4 x6 r1_0_0 r1_0_1 r1_0_2 r1_0_3 r1_0_4 r2_0_0 r2_0_1 r2_0_2 r2_0_3 r3_0_0 r3_0_1 r3_0_2 r3_0_3 z_0 z_1 z_2 z_3 z_4 := by
 intro j jb vs
 refine W.adv 1 ?_
 refine W.adv 7 ?_
 obtain ⟨h5, h6, H⟩ := H
 refine W.opS (OpIs.ixE (enc := E71) (n := 1) (k' := .i64) (L := r1_0_4) (i := x4) (d0 := []) (x := (r1_0_4.getD (x4).toNat [])) (by kernel_rfl) h5 h6 rfl) ?_
 refine W.adv 1 ?_
 refine W.opS (OpIs.ln (n := ((r1_0_4.getD (x4).toNat []).map E_api_Hop).length) (m := (r1_0_4.getD (x4).toNat []).length) (by kernel_rfl) (by rw [List.length_map])) ?_
 refine W.adv 2 ?_
 rcases H with ⟨h7, H⟩ | ⟨h7, H⟩
 ·refine W.guard true (w := ((decide (x6 < ((r1_0_4.getD (x4).toNat []).length : Int))) == true)) (by kernel_rfl) (congrArg (fun b => b == true) (decide_eq_true h7)) ?_
  refine W.adv 1 ?_
  refine W.guard true (w := ((decide (x6 < ((r1_0_4.getD (x4).toNat []).length : Int))) == true)) (by kernel_rfl) (congrArg (fun b => b == true) (decide_eq_true h7)) ?_
  refine W.adv 1 ?_
  refine W.opS (OpIs.pk true (t := (decide (x6 < ((r1_0_4.getD (x4).toNat []).length : Int)))) (x := (.bool (decide (x6 < 5)))) (y := (.bool false)) (by kernel_rfl) (decide_eq_true h7)) ?_
  refine W.adv 2 ?_
  rcases H with ⟨h8, H⟩ | ⟨h8, H⟩
  ·refine W.cond true (w := (decide (x6 < 5))) (by kernel_rfl) (decide_eq_true h8) ?_
   refine W.adv 9 ?_
   refine W.opS (OpIs.ixE (enc := E71) (n := 1) (k' := .i64) (L := r1_0_4) (i := x4) (d0 := []) (x := (r1_0_4.getD (x4).toNat [])) (by kernel_rfl) h5 h6 rfl) ?_
   refine W.adv 2 ?_
   obtain ⟨h9, H⟩ := H
   obtain ⟨e10, e11, he12, H⟩ := H
   refine W.opS (OpIs.ixE (enc := E_api_Hop) (n := 2) (k' := .i64) (L := (r1_0_4.getD (x4).toNat [])) (i := x6) (d0 := (ByteArray.empty, 0)) (x := (e10, e11)) (by kernel_rfl) h9 h7 he12) ?_
   refine W.adv 11 ?_
   rcases H with ⟨h13, H⟩ | ⟨h13, H⟩
   ·refine W.guard false (w := ((decide (e11 < (-1000000))) == false)) (by kernel_rfl) (congrArg (fun b => b == false) (decide_eq_true h13)) ?_
    refine W.guard false (w := ((decide (e11 < (-1000000))) == false)) (by kernel_rfl) (congrArg (fun b => b == false) (decide_eq_true h13)) ?_
    refine W.opS (OpIs.pk true (t := (decide (e11 < (-1000000)))) (x := (.bool true)) (y := (.tuple [])) (by kernel_rfl) (decide_eq_true h13)) ?_
    refine W.adv 12 ?_
    refine W.opS (OpIs.ixE (enc := E71) (n := 1) (k' := .i64) (L := r1_0_4) (i := x4) (d0 := []) (x := (r1_0_4.getD (x4).toNat [])) (by kernel_rfl) h5 h6 rfl) ?_
    refine W.adv 2 ?_
    obtain ⟨e14, e15, he16, H⟩ := H
    refine W.opS (OpIs.ixE (enc := E_api_Hop) (n := 2) (k' := .i64) (L := (r1_0_4.getD (x4).toNat [])) (i := x6) (d0 := (ByteArray.empty, 0)) (x := (e14, e15)) (by kernel_rfl) h9 h7 he16) ?_
    refine W.adv 2 ?_
    obtain ⟨c17, hc18, H⟩ := H
    refine W.callR (g := 58) (ds := [.str e14]) (es := [.str e14]) (r := (.str c17)) (by kernel_rfl) (by kernel_rfl) (Ic.args hc18 (by kernel_rfl)) (by kernel_rfl) ?_
    refine W.adv 3 ?_
    obtain ⟨h22, H⟩ := H
    obtain ⟨y19, hy20, H⟩ := H
    have ln21 : 1 = y19.length := by rw [hy20] <;> rfl
    refine W.opH (OpIs.apENil (enc := E_api_Hop) (y := (.lit (.list 2 [(.agg [.str c17, .int .i64 2])]))) (B := none) (n := 24) (d := 71) (v := (jb 71).ver) (m := 2) (ys := [(c17, 2)]) (by kernel_rfl) (by kernel_rfl) hy20 h22) ?_
    refine W.adv 10 ?_
    exact W.to_loop (P := ref22_CleanRule_l2_s x4 (wi (x6 + 1)) r1_0_0 r1_0_1 r1_0_2 r1_0_3 r1_0_4 r2_0_0 r2_0_1 r2_0_2 r2_0_3 r3_0_0 r3_0_1 r3_0_2 r3_0_3 y19 1) (H _ ln21) (by kernel_rfl)
   ·refine W.guard true (w := ((decide (e11 < (-1000000))) == false)) (by kernel_rfl) (congrArg (fun b => b == false) (decide_eq_false h13)) ?_
    refine W.adv 1 ?_
    refine W.guard true (w := ((decide (e11 < (-1000000))) == false)) (by kernel_rfl) (congrArg (fun b => b == false) (decide_eq_false h13)) ?_
    refine W.adv 1 ?_
    refine W.opS (OpIs.pk false (t := (decide (e11 < (-1000000)))) (x := (.bool true)) (y := (.bool (decide (2147483648 < e11)))) (by kernel_rfl) (decide_eq_false h13)) ?_
    refine W.adv 2 ?_
    rcases H with ⟨h23, H⟩ | ⟨h23, H⟩
    ·refine W.cond true (w := (decide (2147483648 < e11))) (by kernel_rfl) (decide_eq_true h23) ?_
     refine W.adv 9 ?_
     refine W.opS (OpIs.ixE (enc := E71) (n := 1) (k' := .i64) (L := r1_0_4) (i := x4) (d0 := []) (x := (r1_0_4.getD (x4).toNat [])) (by kernel_rfl) h5 h6 rfl) ?_
     refine W.adv 2 ?_
     obtain ⟨e24, e25, he26, H⟩ := H
     refine W.opS (OpIs.ixE (enc := E_api_Hop) (n := 2) (k' := .i64) (L := (r1_0_4.getD (x4).toNat [])) (i := x6) (d0 := (ByteArray.empty, 0)) (x := (e24, e25)) (by kernel_rfl) h9 h7 he26) ?_
     refine W.adv 2 ?_
     obtain ⟨c27, hc28, H⟩ := H
     refine W.callR (g := 58) (ds := [.str e24]) (es := [.str e24]) (r := (.str c27)) (by kernel_rfl) (by kernel_rfl) (Ic.args hc28 (by kernel_rfl)) (by kernel_rfl) ?_
     refine W.adv 3 ?_
     obtain ⟨h32, H⟩ := H
     obtain ⟨y29, hy30, H⟩ := H
     have ln31 : 1 = y29.length := by rw [hy30] <;> rfl
     refine W.opH (OpIs.apENil (enc := E_api_Hop) (y := (.lit (.list 2 [(.agg [.str c27, .int .i64 2])]))) (B := none) (n := 24) (d := 71) (v := (jb 71).ver) (m := 2) (ys := [(c27, 2)]) (by kernel_rfl) (by kernel_rfl) hy30 h32) ?_
     refine W.adv 10 ?_
     exact W.to_loop (P := ref22_CleanRule_l2_s x4 (wi (x6 + 1)) r1_0_0 r1_0_1 r1_0_2 r1_0_3 r1_0_4 r2_0_0 r2_0_1 r2_0_2 r2_0_3 r3_0_0 r3_0_1 r3_0_2 r3_0_3 y29 1) (H _ ln31) (by kernel_rfl)
    ·refine W.cond false (w := (decide (2147483648 < e11))) (by kernel_rfl) (decide_eq_false h23) ?_
     refine W.adv 7 ?_
     refine W.opS (OpIs.ixE (enc := E71) (n := 1) (k' := .i64) (L := r1_0_4) (i := x4) (d0 := []) (x := (r1_0_4.getD (x4).toNat [])) (by kernel_rfl) h5 h6 rfl) ?_
     refine W.adv 2 ?_
     obtain ⟨e33, e34, he35, H⟩ := H
     refine W.opS (OpIs.ixE (enc := E_api_Hop) (n := 2) (k' := .i64) (L := (r1_0_4.getD (x4).toNat [])) (i := x6) (d0 := (ByteArray.empty, 0)) (x := (e33, e34)) (by kernel_rfl) h9 h7 he35) ?_
     refine W.adv 2 ?_
     obtain ⟨c36, hc37, H⟩ := H
     refine W.callR (g := 58) (ds := [.str e33]) (es := [.str e33]) (r := (.str c36)) (by kernel_rfl) (by kernel_rfl) (Ic.args hc37 (by kernel_rfl)) (by kernel_rfl) ?_
     refine W.adv 3 ?_
     obtain ⟨h41, H⟩ := H
     obtain ⟨y38, hy39, H⟩ := H
     have ln40 : 1 = y38.length := by rw [hy39] <;> rfl
     refine W.opH (OpIs.apENil (enc := E_api_Hop) (y := (.lit (.list 2 [(.agg [.str c36, .int .i64 e11])]))) (B := none) (n := 24) (d := 71) (v := (jb 71).ver) (m := 2) (ys := [(c36, e11)]) (by kernel_rfl) (by kernel_rfl) hy39 h41) ?_
     refine W.adv 10 ?_
     exact W.to_loop (P := ref22_CleanRule_l2_s x4 (wi (x6 + 1)) r1_0_0 r1_0_1 r1_0_2 r1_0_3 r1_0_4 r2_0_0 r2_0_1 r2_0_2 r2_0_3 r3_0_0 r3_0_1 r3_0_2 r3_0_3 y38 1) (H _ ln40) (by kernel_rfl)
  ·refine W.cond false (w := (decide (x6 < 5))) (by kernel_rfl) (decide_eq_false h8) ?_
   refine W.adv 10 ?_
   obtain ⟨h45, H⟩ := H
   obtain ⟨y42, hy43, H⟩ := H
   have ln44 : 1 = y42.length := by rw [hy43] <;> rfl
   refine W.opH (OpIs.apENil (enc := E71) (y := (.lit (.list 1 [.list 2 []]))) (B := none) (n := 24) (d := 76) (v := (jb 76).ver) (m := 1) (ys := [[]]) (by kernel_rfl) (by kernel_rfl) hy43 h45) ?_
   refine W.adv 11 ?_
   exact W.to_loop (P := ref22_CleanRule_l3_s (wi (x4 + 1)) r1_0_0 r1_0_1 r1_0_2 r1_0_3 r1_0_4 r2_0_0 r2_0_1 r2_0_2 r2_0_3 r3_0_0 r3_0_1 r3_0_2 r3_0_3 y42 1) (H _ ln44) (by kernel_rfl)
 ·refine W.guard false (w := ((decide (x6 < ((r1_0_4.getD (x4).toNat []).length : Int))) == true)) (by kernel_rfl) (congrArg (fun b => b == true) (decide_eq_false h7)) ?_
  refine W.guard false (w := ((decide (x6 < ((r1_0_4.getD (x4).toNat []).length : Int))) == true)) (by kernel_rfl) (congrArg (fun b => b == true) (decide_eq_false h7)) ?_
  refine W.opS (OpIs.pk false (t := (decide (x6 < ((r1_0_4.getD (x4).toNat []).length : Int)))) (x := (.tuple [])) (y := (.bool false)) (by kernel_rfl) (decide_eq_false h7)) ?_
  refine W.adv 13 ?_
  obtain ⟨h49, H⟩ := H
  obtain ⟨y46, hy47, H⟩ := H
  have ln48 : 1 = y46.length := by rw [hy47] <;> rfl
  refine W.opH (OpIs.apENil (enc := E71) (y := (.lit (.list 1 [.list 2 []]))) (B := none) (n := 24) (d := 76) (v := (jb 76).ver) (m := 1) (ys := [[]]) (by kernel_rfl) (by kernel_rfl) hy47 h49) ?_
  refine W.adv 11 ?_
  exact W.to_loop (P := ref22_CleanRule_l3_s (wi (x4 + 1)) r1_0_0 r1_0_1 r1_0_2 r1_0_3 r1_0_4 r2_0_0 r2_0_1 r2_0_2 r2_0_3 r3_0_0 r3_0_1 r3_0_2 r3_0_3 y46 1) (H _ ln48) (by kernel_rfl)
theorem ref22_CleanRule_l2_go {x4 : Int} {x6 : Int} {r1_0_0 : ByteArray} {r1_0_1 : Int} {r1_0_2 : Int} {r1_0_3 : Bool} {r1_0_4 : List T71} {r2_0_0 : ByteArray} {r2_0_1 : Int} {r2_0_2 : Int} {r2_0_3 : Bool} {r3_0_0 : ByteArray} {r3_0_1 : Int} {r3_0_2 : Int} {r3_0_3 : Bool} {r71 : List T_api_Hop} {z_0 : ByteArray} {z_1 : Int} {z_2 : Int} {z_3 : Bool} {z_4 : List T71} (H : (0 ≤ x4 ∧ (x4 < (r1_0_4.length : Int) ∧ ((x6 < ((r1_0_4.getD (x4).toNat []).length : Int) ∧ ((x6 < 5 ∧ (0 ≤ x6 ∧ (∃ e55 : ByteArray, (∃ e56 : Int, ((r1_0_4.getD (x4).toNat []).getD (x6).toNat (ByteArray.empty, 0) = (e55, e56) ∧ ((e56 < (-1000000) ∧ (∃ e59 : ByteArray, (∃ e60 : Int, ((r1_0_4.getD (x4).toNat []).getD (x6).toNat (ByteArray.empty, 0) = (e59, e60) ∧ (∃ c62 : ByteArray, (ref22_short_R e59 c62 ∧ ((r71.length + 1 + 192) * (24 + 1) ≤ 70368744177664 ∧ (∃ y64 : List T_api_Hop, y64 = r71 ++ [(c62, 2)] ∧ (ref22_CleanRule_l2 x4 (wi (x6 + 1)) r1_0_0 r1_0_1 r1_0_2 r1_0_3 r1_0_4 r2_0_0 r2_0_1 r2_0_2 r2_0_3 r3_0_0 r3_0_1 r3_0_2 r3_0_3 y64 z_0 z_1 z_2 z_3 z_4))))))))) ∨ (¬ e56 < (-1000000) ∧ ((2147483648 < e56 ∧ (∃ e69 : ByteArray, (∃ e70 : Int, ((r1_0_4.getD (x4).toNat []).getD (x6).toNat (ByteArray.empty, 0) = (e69, e70) ∧ (∃ c72 : ByteArray, (ref22_short_R e69 c72 ∧ ((r71.length + 1 + 192) * (24 + 1) ≤ 70368744177664 ∧ (∃ y74 : List T_api_Hop, y74 = r71 ++ [(c72, 2)] ∧ (ref22_CleanRule_l2 x4 (wi (x6 + 1)) r1_0_0 r1_0_1 r1_0_2 r1_0_3 r1_0_4 r2_0_0 r2_0_1 r2_0_2 r2_0_3 r3_0_0 r3_0_1 r3_0_2 r3_0_3 y74 z_0 z_1 z_2 z_3 z_4))))))))) ∨ (¬ 2147483648 < e56 ∧ (∃ e78 : ByteArray, (∃ e79 : Int, ((r1_0_4.getD (x4).toNat []).getD (x6).toNat (ByteArray.empty, 0) = (e78, e79) ∧ (∃ c81 : ByteArray, (ref22_short_R e78 c81 ∧ ((r71.length + 1 + 192) * (24 + 1) ≤ 70368744177664 ∧ (∃ y83 : List T_api_Hop, y83 = r71 ++ [(c81, e56)] ∧ (ref22_CleanRule_l2 x4 (wi (x6 + 1)) r1_0_0 r1_0_1 r1_0_2 r1_0_3 r1_0_4 r2_0_0 r2_0_1 r2_0_2 r2_0_3 r3_0_0 r3_0_1 r3_0_2 r3_0_3 y83 z_0 z_1 z_2 z_3 z_4))))))))))))))))) ∨ (¬ x6 < 5 ∧ ((1 + 192) * (24 + 1) ≤ 70368744177664 ∧ (∃ y87 : List T71, y87 = [r71] ∧ (ref22_CleanRule_l3 (wi (x4 + 1)) r1_0_0 r1_0_1 r1_0_2 r1_0_3 r1_0_4 r2_0_0 r2_0_1 r2_0_2 r2_0_3 r3_0_0 r3_0_1 r3_0_2 r3_0_3 y87 z_0 z_1 z_2 z_3 z_4)))))) ∨ (¬ x6 < ((r1_0_4.getD (x4).toNat []).length : Int) ∧ ((1 + 192) * (24 + 1) ≤ 70368744177664 ∧ (∃ y91 : List T71, y91 = [r71] ∧ (ref22_CleanRule_l3 (wi (x4 + 1)) r1_0_0 r1_0_1 r1_0_2 r1_0_3 r1_0_4 r2_0_0 r2_0_1 r2_0_2 r2_0_3 r3_0_0 r3_0_1 r3_0_2 r3_0_3 y91 z_0 z_1 z_2 z_3 z_4)))))))) : ref22_CleanRule_l2 x4 x6 r1_0_0 r1_0_1 r1_0_2 r1_0_3 r1_0_4 r2_0_0 r2_0_1 r2_0_2 r2_0_3 r3_0_0 r3_0_1 r3_0_2 r3_0_3 r71 z_0 z_1 z_2 z_3 z_4 := by
 intro n71 ln_71 j jb vs
 refine W.adv 1 ?_
 refine W.adv 7 ?_
 obtain ⟨h50, h51, H⟩ := H
 refine W.opS (OpIs.ixE (enc := E71) (n := 1) (k' := .i64) (L := r1_0_4) (i := x4) (d0 := []) (x := (r1_0_4.getD (x4).toNat [])) (by kernel_rfl) h50 h51 rfl) ?_
 refine W.adv 1 ?_
 refine W.opS (OpIs.ln (n := ((r1_0_4.getD (x4).toNat []).map E_api_Hop).length) (m := (r1_0_4.getD (x4).toNat []).length) (by kernel_rfl) (by rw [List.length_map])) ?_
 refine W.adv 2 ?_
 rcases H with ⟨h52, H⟩ | ⟨h52, H⟩
 ·refine W.guard true (w := ((decide (x6 < ((r1_0_4.getD (x4).toNat []).length : Int))) == true)) (by kernel_rfl) (congrArg (fun b => b == true) (decide_eq_true h52)) ?_
  refine W.adv 1 ?_
  refine W.guard true (w := ((decide (x6 < ((r1_0_4.getD (x4).toNat []).length : Int))) == true)) (by kernel_rfl) (congrArg (fun b => b == true) (decide_eq_true h52)) ?_
  refine W.adv 1 ?_
  refine W.opS (OpIs.pk true (t := (decide (x6 < ((r1_0_4.getD (x4).toNat []).length : Int)))) (x := (.bool (decide (x6 < 5)))) (y := (.bool false)) (by kernel_rfl) (decide_eq_true h52)) ?_
  refine W.adv 2 ?_
  rcases H with ⟨h53, H⟩ | ⟨h53, H⟩
  ·refine W.cond true (w := (decide (x6 < 5))) (by kernel_rfl) (decide_eq_true h53) ?_
   refine W.adv 9 ?_
   refine W.opS (OpIs.ixE (enc := E71) (n := 1) (k' := .i64) (L := r1_0_4) (i := x4) (d0 := []) (x := (r1_0_4.getD (x4).toNat [])) (by kernel_rfl) h50 h51 rfl) ?_
   refine W.adv 2 ?_
   obtain ⟨h54, H⟩ := H
   obtain ⟨e55, e56, he57, H⟩ := H
   refine W.opS (OpIs.ixE (enc := E_api_Hop) (n := 2) (k' := .i64) (L := (r1_0_4.getD (x4).toNat [])) (i := x6) (d0 := (ByteArray.empty, 0)) (x := (e55, e56)) (by kernel_rfl) h54 h52 he57) ?_
   refine W.adv 11 ?_
   rcases H with ⟨h58, H⟩ | ⟨h58, H⟩
   ·refine W.guard false (w := ((decide (e56 < (-1000000))) == false)) (by kernel_rfl) (congrArg (fun b => b == false) (decide_eq_true h58)) ?_
    refine W.guard false (w := ((decide (e56 < (-1000000))) == false)) (by kernel_rfl) (congrArg (fun b => b == false) (decide_eq_true h58)) ?_
    refine W.opS (OpIs.pk true (t := (decide (e56 < (-1000000)))) (x := (.bool true)) (y := (.tuple [])) (by kernel_rfl) (decide_eq_true h58)) ?_
    refine W.adv 12 ?_
    refine W.opS (OpIs.ixE (enc := E71) (n := 1) (k' := .i64) (L := r1_0_4) (i := x4) (d0 := []) (x := (r1_0_4.getD (x4).toNat [])) (by kernel_rfl) h50 h51 rfl) ?_
    refine W.adv 2 ?_
    obtain ⟨e59, e60, he61, H⟩ := H
    refine W.opS (OpIs.ixE (enc := E_api_Hop) (n := 2) (k' := .i64) (L := (r1_0_4.getD (x4).toNat [])) (i := x6) (d0 := (ByteArray.empty, 0)) (x := (e59, e60)) (by kernel_rfl) h54 h52 he61) ?_
    refine W.adv 2 ?_
    obtain ⟨c62, hc63, H⟩ := H
    refine W.callR (g := 58) (ds := [.str e59]) (es := [.str e59]) (r := (.str c62)) (by kernel_rfl) (by kernel_rfl) (Ic.args hc63 (by kernel_rfl)) (by kernel_rfl) ?_
    refine W.adv 3 ?_
    obtain ⟨h67, H⟩ := H
    obtain ⟨y64, hy65, H⟩ := H
    have ln66 : (r71.length + 1) = y64.length := by rw [hy65, List.length_append] <;> rfl
    refine W.opK (OpIs.apERow (enc := E_api_Hop) (y := (.lit (.list 2 [(.agg [.str c62, .int .i64 2])]))) (n := 24) (d := 71) (dv := ((vs 71) + 1)) (b := 71) (v := ((vs 71) + 1)) (w := ((vs 71) + 1)) (len := n71) (m := 2) (xs := r71) (ys := [(c62, 2)]) (by kernel_rfl) (by kernel_rfl) hy65 rfl ln_71 h67) ?_
    refine W.adv 10 ?_
    exact W.to_loop (P := ref22_CleanRule_l2_s x4 (wi (x6 + 1)) r1_0_0 r1_0_1 r1_0_2 r1_0_3 r1_0_4 r2_0_0 r2_0_1 r2_0_2 r2_0_3 r3_0_0 r3_0_1 r3_0_2 r3_0_3 y64 (r71.length + 1)) (H _ ln66) (by kernel_rfl)
   ·refine W.guard true (w := ((decide (e56 < (-1000000))) == false)) (by kernel_rfl) (congrArg (fun b => b == false) (decide_eq_false h58)) ?_
    refine W.adv 1 ?_
    refine W.guard true (w := ((decide (e56 < (-1000000))) == false)) (by kernel_rfl) (congrArg (fun b => b == false) (decide_eq_false h58)) ?_
    refine W.adv 1 ?_
    refine W.opS (OpIs.pk false (t := (decide (e56 < (-1000000)))) (x := (.bool true)) (y := (.bool (decide (2147483648 < e56)))) (by kernel_rfl) (decide_eq_false h58)) ?_
    refine W.adv 2 ?_
    rcases H with ⟨h68, H⟩ | ⟨h68, H⟩
    ·refine W.cond true (w := (decide (2147483648 < e56))) (by kernel_rfl) (decide_eq_true h68) ?_
     refine W.adv 9 ?_
     refine W.opS (OpIs.ixE (enc := E71) (n := 1) (k' := .i64) (L := r1_0_4) (i := x4) (d0 := []) (x := (r1_0_4.getD (x4).toNat [])) (by kernel_rfl) h50 h51 rfl) ?_
     refine W.adv 2 ?_
     obtain ⟨e69, e70, he71, H⟩ := H
     refine W.opS (OpIs.ixE (enc := E_api_Hop) (n := 2) (k' := .i64) (L := (r1_0_4.getD (x4).toNat [])) (i := x6) (d0 := (ByteArray.empty, 0)) (x := (e69, e70)) (by kernel_rfl) h54 h52 he71) ?_
     refine W.adv 2 ?_
     obtain ⟨c72, hc73, H⟩ := H
     refine W.callR (g := 58) (ds := [.str e69]) (es := [.str e69]) (r := (.str c72)) (by kernel_rfl) (by kernel_rfl) (Ic.args hc73 (by kernel_rfl)) (by kernel_rfl) ?_
     refine W.adv 3 ?_
     obtain ⟨h77, H⟩ := H
     obtain ⟨y74, hy75, H⟩ := H
     have ln76 : (r71.length + 1) = y74.length := by rw [hy75, List.length_append] <;> rfl
     refine W.opK (OpIs.apERow (enc := E_api_Hop) (y := (.lit (.list 2 [(.agg [.str c72, .int .i64 2])]))) (n := 24) (d := 71) (dv := ((vs 71) + 1)) (b := 71) (v := ((vs 71) + 1)) (w := ((vs 71) + 1)) (len := n71) (m := 2) (xs := r71) (ys := [(c72, 2)]) (by kernel_rfl) (by kernel_rfl) hy75 rfl ln_71 h77) ?_
     refine W.adv 10 ?_
     exact W.to_loop (P := ref22_CleanRule_l2_s x4 (wi (x6 + 1)) r1_0_0 r1_0_1 r1_0_2 r1_0_3 r1_0_4 r2_0_0 r2_0_1 r2_0_2 r2_0_3 r3_0_0 r3_0_1 r3_0_2 r3_0_3 y74 (r71.length + 1)) (H _ ln76) (by kernel_rfl)
    ·refine W.cond false (w := (decide (2147483648 < e56))) (by kernel_rfl) (decide_eq_false h68) ?_
     refine W.adv 7 ?_
     refine W.opS (OpIs.ixE (enc := E71) (n := 1) (k' := .i64) (L := r1_0_4) (i := x4) (d0 := []) (x := (r1_0_4.getD (x4).toNat [])) (by kernel_rfl) h50 h51 rfl) ?_
     refine W.adv 2 ?_
     obtain ⟨e78, e79, he80, H⟩ := H
     refine W.opS (OpIs.ixE (enc := E_api_Hop) (n := 2) (k' := .i64) (L := (r1_0_4.getD (x4).toNat [])) (i := x6) (d0 := (ByteArray.empty, 0)) (x := (e78, e79)) (by kernel_rfl) h54 h52 he80) ?_
     refine W.adv 2 ?_
     obtain ⟨c81, hc82, H⟩ := H
     refine W.callR (g := 58) (ds := [.str e78]) (es := [.str e78]) (r := (.str c81)) (by kernel_rfl) (by kernel_rfl) (Ic.args hc82 (by kernel_rfl)) (by kernel_rfl) ?_
     refine W.adv 3 ?_
     obtain ⟨h86, H⟩ := H
     obtain ⟨y83, hy84, H⟩ := H
     have ln85 : (r71.length + 1) = y83.length := by rw [hy84, List.length_append] <;> rfl
     refine W.opK (OpIs.apERow (enc := E_api_Hop) (y := (.lit (.list 2 [(.agg [.str c81, .int .i64 e56])]))) (n := 24) (d := 71) (dv := ((vs 71) + 1)) (b := 71) (v := ((vs 71) + 1)) (w := ((vs 71) + 1)) (len := n71) (m := 2) (xs := r71) (ys := [(c81, e56)]) (by kernel_rfl) (by kernel_rfl) hy84 rfl ln_71 h86) ?_
     refine W.adv 10 ?_
     exact W.to_loop (P := ref22_CleanRule_l2_s x4 (wi (x6 + 1)) r1_0_0 r1_0_1 r1_0_2 r1_0_3 r1_0_4 r2_0_0 r2_0_1 r2_0_2 r2_0_3 r3_0_0 r3_0_1 r3_0_2 r3_0_3 y83 (r71.length + 1)) (H _ ln85) (by kernel_rfl)
  ·refine W.cond false (w := (decide (x6 < 5))) (by kernel_rfl) (decide_eq_false h53) ?_
   refine W.adv 9 ?_
   refine W.opF (OpIs.bs (t := 61) (len := 1) (is := [0]) (vs := [(.sref 71 ((vs 71) + 1) 2 0 n71)]) (es := [(.list 2 (r71.map E_api_Hop))]) (d := (.lit (.list 1 [(.list 2 (r71.map E_api_Hop))]))) (by kernel_rfl) (rf_cons (rf_fullE (enc := E_api_Hop) E_api_Hop_t (b := 71) (v := ((vs 71) + 1)) (w := ((vs 71) + 1)) (fz := false) (xs := r71) (by kernel_rfl) rfl ln_71) rf_nil) (by kernel_rfl) rfl) ?_
   obtain ⟨h90, H⟩ := H
   obtain ⟨y87, hy88, H⟩ := H
   have ln89 : 1 = y87.length := by rw [hy88] <;> rfl
   refine W.opH (OpIs.apENil (enc := E71) (y := (.lit (.list 1 [(.list 2 (r71.map E_api_Hop))]))) (B := none) (n := 24) (d := 76) (v := (jb 76).ver) (m := 1) (ys := [r71]) (by kernel_rfl) (by kernel_rfl) hy88 h90) ?_
   refine W.adv 11 ?_
   exact W.to_loop (P := ref22_CleanRule_l3_s (wi (x4 + 1)) r1_0_0 r1_0_1 r1_0_2 r1_0_3 r1_0_4 r2_0_0 r2_0_1 r2_0_2 r2_0_3 r3_0_0 r3_0_1 r3_0_2 r3_0_3 y87 1) (H _ ln89) (by kernel_rfl)
 ·refine W.guard false (w := ((decide (x6 < ((r1_0_4.getD (x4).toNat []).length : Int))) == true)) (by kernel_rfl) (congrArg (fun b => b == true) (decide_eq_false h52)) ?_
  refine W.guard false (w := ((decide (x6 < ((r1_0_4.getD (x4).toNat []).length : Int))) == true)) (by kernel_rfl) (congrArg (fun b => b == true) (decide_eq_false h52)) ?_
  refine W.opS (OpIs.pk false (t := (decide (x6 < ((r1_0_4.getD (x4).toNat []).length : Int)))) (x := (.tuple [])) (y := (.bool false)) (by kernel_rfl) (decide_eq_false h52)) ?_
  refine W.adv 12 ?_
  refine W.opF (OpIs.bs (t := 61) (len := 1) (is := [0]) (vs := [(.sref 71 ((vs 71) + 1) 2 0 n71)]) (es := [(.list 2 (r71.map E_api_Hop))]) (d := (.lit (.list 1 [(.list 2 (r71.map E_api_Hop))]))) (by kernel_rfl) (rf_cons (rf_fullE (enc := E_api_Hop) E_api_Hop_t (b := 71) (v := ((vs 71) + 1)) (w := ((vs 71) + 1)) (fz := false) (xs := r71) (by kernel_rfl) rfl ln_71) rf_nil) (by kernel_rfl) rfl) ?_
  obtain ⟨h94, H⟩ := H
  obtain ⟨y91, hy92, H⟩ := H
  have ln93 : 1 = y91.length := by rw [hy92] <;> rfl
  refine W.opH (OpIs.apENil (enc := E71) (y := (.lit (.list 1 [(.list 2 (r71.map E_api_Hop))]))) (B := none) (n := 24) (d := 76) (v := (jb 76).ver) (m := 1) (ys := [r71]) (by kernel_rfl) (by kernel_rfl) hy92 h94) ?_
  refine W.adv 11 ?_
  exact W.to_loop (P := ref22_CleanRule_l3_s (wi (x4 + 1)) r1_0_0 r1_0_1 r1_0_2 r1_0_3 r1_0_4 r2_0_0 r2_0_1 r2_0_2 r2_0_3 r3_0_0 r3_0_1 r3_0_2 r3_0_3 y91 1) (H _ ln93) (by kernel_rfl)
theorem ref22_CleanRule_l3_go {x4 : Int} {r1_0_0 : ByteArray} {r1_0_1 : Int} {r1_0_2 : Int} {r1_0_3 : Bool} {r1_0_4 : List T71} {r2_0_0 : ByteArray} {r2_0_1 : Int} {r2_0_2 : Int} {r2_0_3 : Bool} {r3_0_0 : ByteArray} {r3_0_1 : Int} {r3_0_2 : Int} {r3_0_3 : Bool} {r76 : List T71} {z_0 : ByteArray} {z_1 : Int} {z_2 : Int} {z_3 : Bool} {z_4 : List T71} (H : ((x4 < (r1_0_4.length : Int) ∧ ((x4 < 4 ∧ (ref22_CleanRule_l4 x4 0 r1_0_0 r1_0_1 r1_0_2 r1_0_3 r1_0_4 r2_0_0 r2_0_1 r2_0_2 r2_0_3 r3_0_0 r3_0_1 r3_0_2 r3_0_3 r76 z_0 z_1 z_2 z_3 z_4)) ∨ (¬ x4 < 4 ∧ (z_0 = r3_0_0 ∧ z_1 = r3_0_1 ∧ z_2 = r3_0_2 ∧ z_3 = r3_0_3 ∧ z_4 = r76)))) ∨ (¬ x4 < (r1_0_4.length : Int) ∧ (z_0 = r3_0_0 ∧ z_1 = r3_0_1 ∧ z_2 = r3_0_2 ∧ z_3 = r3_0_3 ∧ z_4 = r76)))) : ref22_CleanRule_l3 x4 r1_0_0 r1_0_1 r1_0_2 r1_0_3 r1_0_4 r2_0_0 r2_0_1 r2_0_2 r2_0_3 r3_0_0 r3_0_1 r3_0_2 r3_0_3 r76 z_0 z_1 z_2 z_3 z_4 := by
 intro n76 ln_76 j jb vs
 refine W.adv 1 ?_
 refine W.adv 6 ?_
 refine W.opS (OpIs.ln (n := (r1_0_4.map E71).length) (m := r1_0_4.length) (by kernel_rfl) (by rw [List.length_map])) ?_
 refine W.adv 2 ?_
 rcases H with ⟨h95, H⟩ | ⟨h95, H⟩
 ·refine W.guard true (w := ((decide (x4 < (r1_0_4.length : Int))) == true)) (by kernel_rfl) (congrArg (fun b => b == true) (decide_eq_true h95)) ?_
  refine W.adv 1 ?_
  refine W.guard true (w := ((decide (x4 < (r1_0_4.length : Int))) == true)) (by kernel_rfl) (congrArg (fun b => b == true) (decide_eq_true h95)) ?_
  refine W.adv 1 ?_
  refine W.opS (OpIs.pk true (t := (decide (x4 < (r1_0_4.length : Int)))) (x := (.bool (decide (x4 < 4)))) (y := (.bool false)) (by kernel_rfl) (decide_eq_true h95)) ?_
  refine W.adv 2 ?_
  rcases H with ⟨h96, H⟩ | ⟨h96, H⟩
  ·refine W.cond true (w := (decide (x4 < 4))) (by kernel_rfl) (decide_eq_true h96) ?_
   refine W.adv 17 ?_
   exact W.to_loop (P := ref22_CleanRule_l4_s x4 0 r1_0_0 r1_0_1 r1_0_2 r1_0_3 r1_0_4 r2_0_0 r2_0_1 r2_0_2 r2_0_3 r3_0_0 r3_0_1 r3_0_2 r3_0_3 r76 n76) (H _ ln_76) (by kernel_rfl)
  ·refine W.cond false (w := (decide (x4 < 4))) (by kernel_rfl) (decide_eq_false h96) ?_
   refine W.adv 12 ?_
   exact W.fin (x := .ret) (by kernel_rfl) (Ans.of (d := (.agg [.str r3_0_0, .int .u32 r3_0_1, .int .i64 r3_0_2, .bool r3_0_3, (.sref 76 ((vs 76) + 1) 1 0 n76)])) (d' := (.agg [.str r3_0_0, .int .u32 r3_0_1, .int .i64 r3_0_2, .bool r3_0_3, (.list 1 (r76.map E71))])) (e' := (.agg [.str r3_0_0, .int .u32 r3_0_1, .int .i64 r3_0_2, .bool r3_0_3, (.list 1 (r76.map E71))])) (by kernel_rfl) ((congrArg (fun h => reify h DEPTH (.agg [.str r3_0_0, .int .u32 r3_0_1, .int .i64 r3_0_2, .bool r3_0_3, (.sref 76 ((vs 76) + 1) 1 0 n76)])) (tidy_ver (b := 76) (v := (vs 76)) (fz := false) (y := .rows 1 (r76.map E71)) (by kernel_rfl))).trans (rf_agg (rf_cons (by kernel_rfl) (rf_cons (by kernel_rfl) (rf_cons (by kernel_rfl) (rf_cons (by kernel_rfl) (rf_cons (rf_fullE (enc := E71) E71_t (b := 76) (v := ((vs 76) + 1)) (w := ((vs 76) + 1)) (fz := false) (xs := r76) (by kernel_rfl) rfl ln_76) rf_nil))))))) (by kernel_rfl) (by rw [H.1, H.2.1, H.2.2.1, H.2.2.2.1, H.2.2.2.2]))
 ·refine W.guard false (w := ((decide (x4 < (r1_0_4.length : Int))) == true)) (by kernel_rfl) (congrArg (fun b => b == true) (decide_eq_false h95)) ?_
  refine W.guard false (w := ((decide (x4 < (r1_0_4.length : Int))) == true)) (by kernel_rfl) (congrArg (fun b => b == true) (decide_eq_false h95)) ?_
  refine W.opS (OpIs.pk false (t := (decide (x4 < (r1_0_4.length : Int)))) (x := (.tuple [])) (y := (.bool false)) (by kernel_rfl) (decide_eq_false h95)) ?_
  refine W.adv 15 ?_
  exact W.fin (x := .ret) (by kernel_rfl) (Ans.of (d := (.agg [.str r3_0_0, .int .u32 r3_0_1, .int .i64 r3_0_2, .bool r3_0_3, (.sref 76 ((vs 76) + 1) 1 0 n76)])) (d' := (.agg [.str r3_0_0, .int .u32 r3_0_1, .int .i64 r3_0_2, .bool r3_0_3, (.list 1 (r76.map E71))])) (e' := (.agg [.str r3_0_0, .int .u32 r3_0_1, .int .i64 r3_0_2, .bool r3_0_3, (.list 1 (r76.map E71))])) (by kernel_rfl) ((congrArg (fun h => reify h DEPTH (.agg [.str r3_0_0, .int .u32 r3_0_1, .int .i64 r3_0_2, .bool r3_0_3, (.sref 76 ((vs 76) + 1) 1 0 n76)])) (tidy_ver (b := 76) (v := (vs 76)) (fz := false) (y := .rows 1 (r76.map E71)) (by kernel_rfl))).trans (rf_agg (rf_cons (by kernel_rfl) (rf_cons (by kernel_rfl) (rf_cons (by kernel_rfl) (rf_cons (by kernel_rfl) (rf_cons (rf_fullE (enc := E71) E71_t (b := 76) (v := ((vs 76) + 1)) (w := ((vs 76) + 1)) (fz := false) (xs := r76) (by kernel_rfl) rfl ln_76) rf_nil))))))) (by kernel_rfl) (by rw [H.1, H.2.1, H.2.2.1, H.2.2.2.1, H.2.2.2.2]))
theorem ref22_CleanRule_l4_go {x4 : Int} {x6 : Int} {r1_0_0 : ByteArray} {r1_0_1 : Int} {r1_0_2 : Int} {r1_0_3 : Bool} {r1_0_4 : List T71} {r2_0_0 : ByteArray} {r2_0_1 : Int} {r2_0_2 : Int} {r2_0_3 : Bool} {r3_0_0 : ByteArray} {r3_0_1 : Int} {r3_0_2 : Int} {r3_0_3 : Bool} {r76 : List T71} {z_0 : ByteArray} {z_1 : Int} {z_2 : Int} {z_3 : Bool} {z_4 : List T71} (H : (0 ≤ x4 ∧ (x4 < (r1_0_4.length : Int) ∧ ((x6 < ((r1_0_4.getD (x4).toNat []).length : Int) ∧ ((x6 < 5 ∧ (0 ≤ x6 ∧ (∃ e102 : ByteArray, (∃ e103 : Int, ((r1_0_4.getD (x4).toNat []).getD (x6).toNat (ByteArray.empty, 0) = (e102, e103) ∧ ((e103 < (-1000000) ∧ (∃ e106 : ByteArray, (∃ e107 : Int, ((r1_0_4.getD (x4).toNat []).getD (x6).toNat (ByteArray.empty, 0) = (e106, e107) ∧ (∃ c109 : ByteArray, (ref22_short_R e106 c109 ∧ ((1 + 192) * (24 + 1) ≤ 70368744177664 ∧ (∃ y111 : List T_api_Hop, y111 = [(c109, 2)] ∧ (ref22_CleanRule_l5 x4 (wi (x6 + 1)) r1_0_0 r1_0_1 r1_0_2 r1_0_3 r1_0_4 r2_0_0 r2_0_1 r2_0_2 r2_0_3 r3_0_0 r3_0_1 r3_0_2 r3_0_3 y111 r76 z_0 z_1 z_2 z_3 z_4))))))))) ∨ (¬ e103 < (-1000000) ∧ ((2147483648 < e103 ∧ (∃ e116 : ByteArray, (∃ e117 : Int, ((r1_0_4.getD (x4).toNat []).getD (x6).toNat (ByteArray.empty, 0) = (e116, e117) ∧ (∃ c119 : ByteArray, (ref22_short_R e116 c119 ∧ ((1 + 192) * (24 + 1) ≤ 70368744177664 ∧ (∃ y121 : List T_api_Hop, y121 = [(c119, 2)] ∧ (ref22_CleanRule_l5 x4 (wi (x6 + 1)) r1_0_0 r1_0_1 r1_0_2 r1_0_3 r1_0_4 r2_0_0 r2_0_1 r2_0_2 r2_0_3 r3_0_0 r3_0_1 r3_0_2 r3_0_3 y121 r76 z_0 z_1 z_2 z_3 z_4))))))))) ∨ (¬ 2147483648 < e103 ∧ (∃ e125 : ByteArray, (∃ e126 : Int, ((r1_0_4.getD (x4).toNat []).getD (x6).toNat (ByteArray.empty, 0) = (e125, e126) ∧ (∃ c128 : ByteArray, (ref22_short_R e125 c128 ∧ ((1 + 192) * (24 + 1) ≤ 70368744177664 ∧ (∃ y130 : List T_api_Hop, y130 = [(c128, e103)] ∧ (ref22_CleanRule_l5 x4 (wi (x6 + 1)) r1_0_0 r1_0_1 r1_0_2 r1_0_3 r1_0_4 r2_0_0 r2_0_1 r2_0_2 r2_0_3 r3_0_0 r3_0_1 r3_0_2 r3_0_3 y130 r76 z_0 z_1 z_2 z_3 z_4))))))))))))))))) ∨ (¬ x6 < 5 ∧ ((r76.length + 1 + 192) * (24 + 1) ≤ 70368744177664 ∧ (∃ y134 : List T71, y134 = r76 ++ [[]] ∧ (ref22_CleanRule_l3 (wi (x4 + 1)) r1_0_0 r1_0_1 r1_0_2 r1_0_3 r1_0_4 r2_0_0 r2_0_1 r2_0_2 r2_0_3 r3_0_0 r3_0_1 r3_0_2 r3_0_3 y134 z_0 z_1 z_2 z_3 z_4)))))) ∨ (¬ x6 < ((r1_0_4.getD (x4).toNat []).length : Int) ∧ ((r76.length + 1 + 192) * (24 + 1) ≤ 70368744177664 ∧ (∃ y138 : List T71, y138 = r76 ++ [[]] ∧ (ref22_CleanRule_l3 (wi (x4 + 1)) r1_0_0 r1_0_1 r1_0_2 r1_0_3 r1_0_4 r2_0_0 r2_0_1 r2_0_2 r2_0_3 r3_0_0 r3_0_1 r3_0_2 r3_0_3 y138 z_0 z_1 z_2 z_3 z_4)))))))) : ref22_CleanRule_l4 x4 x6 r1_0_0 r1_0_1 r1_0_2 r1_0_3 r1_0_4 r2_0_0 r2_0_1 r2_0_2 r2_0_3 r3_0_0 r3_0_1 r3_0_2 r3_0_3 r76 z_0 z_1 z_2 z_3 z_4 := by
 intro n76 ln_76 j jb vs
 refine W.adv 1 ?_
 refine W.adv 7 ?_
 obtain ⟨h97, h98, H⟩ := H
 refine W.opS (OpIs.ixE (enc := E71) (n := 1) (k' := .i64) (L := r1_0_4) (i := x4) (d0 := []) (x := (r1_0_4.getD (x4).toNat [])) (by kernel_rfl) h97 h98 rfl) ?_
 refine W.adv 1 ?_
 refine W.opS (OpIs.ln (n := ((r1_0_4.getD (x4).toNat []).map E_api_Hop).length) (m := (r1_0_4.getD (x4).toNat []).length) (by kernel_rfl) (by rw [List.length_map])) ?_
 refine W.adv 2 ?_
 rcases H with ⟨h99, H⟩ | ⟨h99, H⟩
 ·refine W.guard true (w := ((decide (x6 < ((r1_0_4.getD (x4).toNat []).length : Int))) == true)) (by kernel_rfl) (congrArg (fun b => b == true) (decide_eq_true h99)) ?_
  refine W.adv 1 ?_
  refine W.guard true (w := ((decide (x6 < ((r1_0_4.getD (x4).toNat []).length : Int))) == true)) (by kernel_rfl) (congrArg (fun b => b == true) (decide_eq_true h99)) ?_
  refine W.adv 1 ?_
  refine W.opS (OpIs.pk true (t := (decide (x6 < ((r1_0_4.getD (x4).toNat []).length : Int)))) (x := (.bool (decide (x6 < 5)))) (y := (.bool false)) (by kernel_rfl) (decide_eq_true h99)) ?_
  refine W.adv 2 ?_
  rcases H with ⟨h100, H⟩ | ⟨h100, H⟩
  ·refine W.cond true (w := (decide (x6 < 5))) (by kernel_rfl) (decide_eq_true h100) ?_
   refine W.adv 9 ?_
   refine W.opS (OpIs.ixE (enc := E71) (n := 1) (k' := .i64) (L := r1_0_4) (i := x4) (d0 := []) (x := (r1_0_4.getD (x4).toNat [])) (by kernel_rfl) h97 h98 rfl) ?_
   refine W.adv 2 ?_
   obtain ⟨h101, H⟩ := H
   obtain ⟨e102, e103, he104, H⟩ := H
   refine W.opS (OpIs.ixE (enc := E_api_Hop) (n := 2) (k' := .i64) (L := (r1_0_4.getD (x4).toNat [])) (i := x6) (d0 := (ByteArray.empty, 0)) (x := (e102, e103)) (by kernel_rfl) h101 h99 he104) ?_
   refine W.adv 11 ?_
   rcases H with ⟨h105, H⟩ | ⟨h105, H⟩
   ·refine W.guard false (w := ((decide (e103 < (-1000000))) == false)) (by kernel_rfl) (congrArg (fun b => b == false) (decide_eq_true h105)) ?_
    refine W.guard false (w := ((decide (e103 < (-1000000))) == false)) (by kernel_rfl) (congrArg (fun b => b == false) (decide_eq_true h105)) ?_
    refine W.opS (OpIs.pk true (t := (decide (e103 < (-1000000)))) (x := (.bool true)) (y := (.tuple [])) (by kernel_rfl) (decide_eq_true h105)) ?_
    refine W.adv 12 ?_
    refine W.opS (OpIs.ixE (enc := E71) (n := 1) (k' := .i64) (L := r1_0_4) (i := x4) (d0 := []) (x := (r1_0_4.getD (x4).toNat [])) (by kernel_rfl) h97 h98 rfl) ?_
    refine W.adv 2 ?_
    obtain ⟨e106, e107, he108, H⟩ := H
    refine W.opS (OpIs.ixE (enc := E_api_Hop) (n := 2) (k' := .i64) (L := (r1_0_4.getD (x4).toNat [])) (i := x6) (d0 := (ByteArray.empty, 0)) (x := (e106, e107)) (by kernel_rfl) h101 h99 he108) ?_
    refine W.adv 2 ?_
    obtain ⟨c109, hc110, H⟩ := H
    refine W.callR (g := 58) (ds := [.str e106]) (es := [.str e106]) (r := (.str c109)) (by kernel_rfl) (by kernel_rfl) (Ic.args hc110 (by kernel_rfl)) (by kernel_rfl) ?_
    refine W.adv 3 ?_
    obtain ⟨h114, H⟩ := H
    obtain ⟨y111, hy112, H⟩ := H
    have ln113 : 1 = y111.length := by rw [hy112] <;> rfl
    refine W.opH (OpIs.apENil (enc := E_api_Hop) (y := (.lit (.list 2 [(.agg [.str c109, .int .i64 2])]))) (B := none) (n := 24) (d := 71) (v := (jb 71).ver) (m := 2) (ys := [(c109, 2)]) (by kernel_rfl) (by kernel_rfl) hy112 h114) ?_
    refine W.adv 10 ?_
    exact W.to_loop (P := ref22_CleanRule_l5_s x4 (wi (x6 + 1)) r1_0_0 r1_0_1 r1_0_2 r1_0_3 r1_0_4 r2_0_0 r2_0_1 r2_0_2 r2_0_3 r3_0_0 r3_0_1 r3_0_2 r3_0_3 y111 r76 1 n76) (H _ ln113 _ ln_76) (by kernel_rfl)
   ·refine W.guard true (w := ((decide (e103 < (-1000000))) == false)) (by kernel_rfl) (congrArg (fun b => b == false) (decide_eq_false h105)) ?_
    refine W.adv 1 ?_
    refine W.guard true (w := ((decide (e103 < (-1000000))) == false)) (by kernel_rfl) (congrArg (fun b => b == false) (decide_eq_false h105)) ?_
    refine W.adv 1 ?_
    refine W.opS (OpIs.pk false (t := (decide (e103 < (-1000000)))) (x := (.bool true)) (y := (.bool (decide (2147483648 < e103)))) (by kernel_rfl) (decide_eq_false h105)) ?_
    refine W.adv 2 ?_
    rcases H with ⟨h115, H⟩ | ⟨h115, H⟩
    ·refine W.cond true (w := (decide (2147483648 < e103))) (by kernel_rfl) (decide_eq_true h115) ?_
     refine W.adv 9 ?_
     refine W.opS (OpIs.ixE (enc := E71) (n := 1) (k' := .i64) (L := r1_0_4) (i := x4) (d0 := []) (x := (r1_0_4.getD (x4).toNat [])) (by kernel_rfl) h97 h98 rfl) ?_
     refine W.adv 2 ?_
     obtain ⟨e116, e117, he118, H⟩ := H
     refine W.opS (OpIs.ixE (enc := E_api_Hop) (n := 2) (k' := .i64) (L := (r1_0_4.getD (x4).toNat [])) (i := x6) (d0 := (ByteArray.empty, 0)) (x := (e116, e117)) (by kernel_rfl) h101 h99 he118) ?_
     refine W.adv 2 ?_
     obtain ⟨c119, hc120, H⟩ := H
     refine W.callR (g := 58) (ds := [.str e116]) (es := [.str e116]) (r := (.str c119)) (by kernel_rfl) (by kernel_rfl) (Ic.args hc120 (by kernel_rfl)) (by kernel_rfl) ?_
     refine W.adv 3 ?_
     obtain ⟨h124, H⟩ := H
     obtain ⟨y121, hy122, H⟩ := H
     have ln123 : 1 = y121.length := by rw [hy122] <;> rfl
     refine W.opH (OpIs.apENil (enc := E_api_Hop) (y := (.lit (.list 2 [(.agg [.str c119, .int .i64 2])]))) (B := none) (n := 24) (d := 71) (v := (jb 71).ver) (m := 2) (ys := [(c119, 2)]) (by kernel_rfl) (by kernel_rfl) hy122 h124) ?_
     refine W.adv 10 ?_
     exact W.to_loop (P := ref22_CleanRule_l5_s x4 (wi (x6 + 1)) r1_0_0 r1_0_1 r1_0_2 r1_0_3 r1_0_4 r2_0_0 r2_0_1 r2_0_2 r2_0_3 r3_0_0 r3_0_1 r3_0_2 r3_0_3 y121 r76 1 n76) (H _ ln123 _ ln_76) (by kernel_rfl)
    ·refine W.cond false (w := (decide (2147483648 < e103))) (by kernel_rfl) (decide_eq_false h115) ?_
     refine W.adv 7 ?_
     refine W.opS (OpIs.ixE (enc := E71) (n := 1) (k' := .i64) (L := r1_0_4) (i := x4) (d0 := []) (x := (r1_0_4.getD (x4).toNat [])) (by kernel_rfl) h97 h98 rfl) ?_
     refine W.adv 2 ?_
     obtain ⟨e125, e126, he127, H⟩ := H
     refine W.opS (OpIs.ixE (enc := E_api_Hop) (n := 2) (k' := .i64) (L := (r1_0_4.getD (x4).toNat [])) (i := x6) (d0 := (ByteArray.empty, 0)) (x := (e125, e126)) (by kernel_rfl) h101 h99 he127) ?_
     refine W.adv 2 ?_
     obtain ⟨c128, hc129, H⟩ := H
     refine W.callR (g := 58) (ds := [.str e125]) (es := [.str e125]) (r := (.str c128)) (by kernel_rfl) (by kernel_rfl) (Ic.args hc129 (by kernel_rfl)) (by kernel_rfl) ?_
     refine W.adv 3 ?_
     obtain ⟨h133, H⟩ := H
     obtain ⟨y130, hy131, H⟩ := H
     have ln132 : 1 = y130.length := by rw [hy131] <;> rfl
     refine W.opH (OpIs.apENil (enc := E_api_Hop) (y := (.lit (.list 2 [(.agg [.str c128, .int .i64 e103])]))) (B := none) (n := 24) (d := 71) (v := (jb 71).ver) (m := 2) (ys := [(c128, e103)]) (by kernel_rfl) (by kernel_rfl) hy131 h133) ?_
     refine W.adv 10 ?_
     exact W.to_loop (P := ref22_CleanRule_l5_s x4 (wi (x6 + 1)) r1_0_0 r1_0_1 r1_0_2 r1_0_3 r1_0_4 r2_0_0 r2_0_1 r2_0_2 r2_0_3 r3_0_0 r3_0_1 r3_0_2 r3_0_3 y130 r76 1 n76) (H _ ln132 _ ln_76) (by kernel_rfl)
  ·refine W.cond false (w := (decide (x6 < 5))) (by kernel_rfl) (decide_eq_false h100) ?_
   refine W.adv 10 ?_
   obtain ⟨h137, H⟩ := H
   obtain ⟨y134, hy135, H⟩ := H
   have ln136 : (r76.length + 1) = y134.length := by rw [hy135, List.length_append] <;> rfl
   refine W.opK (OpIs.apERow (enc := E71) (y := (.lit (.list 1 [.list 2 []]))) (n := 24) (d := 76) (dv := ((vs 76) + 1)) (b := 76) (v := ((vs 76) + 1)) (w := ((vs 76) + 1)) (len := n76) (m := 1) (xs := r76) (ys := [[]]) (by kernel_rfl) (by kernel_rfl) hy135 rfl ln_76 h137) ?_
   refine W.adv 11 ?_
   exact W.to_loop (P := ref22_CleanRule_l3_s (wi (x4 + 1)) r1_0_0 r1_0_1 r1_0_2 r1_0_3 r1_0_4 r2_0_0 r2_0_1 r2_0_2 r2_0_3 r3_0_0 r3_0_1 r3_0_2 r3_0_3 y134 (r76.length + 1)) (H _ ln136) (by kernel_rfl)
 ·refine W.guard false (w := ((decide (x6 < ((r1_0_4.getD (x4).toNat []).length : Int))) == true)) (by kernel_rfl) (congrArg (fun b => b == true) (decide_eq_false h99)) ?_
  refine W.guard false (w := ((decide (x6 < ((r1_0_4.getD (x4).toNat []).length : Int))) == true)) (by kernel_rfl) (congrArg (fun b => b == true) (decide_eq_false h99)) ?_
  refine W.opS (OpIs.pk false (t := (decide (x6 < ((r1_0_4.getD (x4).toNat []).length : Int)))) (x := (.tuple [])) (y := (.bool false)) (by kernel_rfl) (decide_eq_false h99)) ?_
  refine W.adv 13 ?_
  obtain ⟨h141, H⟩ := H
  obtain ⟨y138, hy139, H⟩ := H
  have ln140 : (r76.length + 1) = y138.length := by rw [hy139, List.length_append] <;> rfl
  refine W.opK (OpIs.apERow (enc := E71) (y := (.lit (.list 1 [.list 2 []]))) (n := 24) (d := 76) (dv := ((vs 76) + 1)) (b := 76) (v := ((vs 76) + 1)) (w := ((vs 76) + 1)) (len := n76) (m := 1) (xs := r76) (ys := [[]]) (by kernel_rfl) (by kernel_rfl) hy139 rfl ln_76 h141) ?_
  refine W.adv 11 ?_
  exact W.to_loop (P := ref22_CleanRule_l3_s (wi (x4 + 1)) r1_0_0 r1_0_1 r1_0_2 r1_0_3 r1_0_4 r2_0_0 r2_0_1 r2_0_2 r2_0_3 r3_0_0 r3_0_1 r3_0_2 r3_0_3 y138 (r76.length + 1)) (H _ ln140) (by kernel_rfl)
theorem ref22_CleanRule_l5_go {x4 : Int} {x6 : Int} {r1_0_0 : ByteArray} {r1_0_1 : Int} {r1_0_2 : Int} {r1_0_3 : Bool} {r1_0_4 : List T71} {r2_0_0 : ByteArray} {r2_0_1 : Int} {r2_0_2 : Int} {r2_0_3 : Bool} {r3_0_0 : ByteArray} {r3_0_1 : Int} {r3_0_2 : Int} {r3_0_3 : Bool} {r71 : List T_api_Hop} {r76 : List T71} {z_0 : ByteArray} {z_1 : Int} {z_2 : Int} {z_3 : Bool} {z_4 : List T71} (H : (0 ≤ x4 ∧ (x4 < (r1_0_4.length : Int) ∧ ((x6 < ((r1_0_4.getD (x4).toNat []).length : Int) ∧ ((x6 < 5 ∧ (0 ≤ x6 ∧ (∃ e147 : ByteArray, (∃ e148 : Int, ((r1_0_4.getD (x4).toNat []).getD (x6).toNat (ByteArray.empty, 0) = (e147, e148) ∧ ((e148 < (-1000000) ∧ (∃ e151 : ByteArray, (∃ e152 : Int, ((r1_0_4.getD (x4).toNat []).getD (x6).toNat (ByteArray.empty, 0) = (e151, e152) ∧ (∃ c154 : ByteArray, (ref22_short_R e151 c154 ∧ ((r71.length + 1 + 192) * (24 + 1) ≤ 70368744177664 ∧ (∃ y156 : List T_api_Hop, y156 = r71 ++ [(c154, 2)] ∧ (ref22_CleanRule_l5 x4 (wi (x6 + 1)) r1_0_0 r1_0_1 r1_0_2 r1_0_3 r1_0_4 r2_0_0 r2_0_1 r2_0_2 r2_0_3 r3_0_0 r3_0_1 r3_0_2 r3_0_3 y156 r76 z_0 z_1 z_2 z_3 z_4))))))))) ∨ (¬ e148 < (-1000000) ∧ ((2147483648 < e148 ∧ (∃ e161 : ByteArray, (∃ e162 : Int, ((r1_0_4.getD (x4).toNat []).getD (x6).toNat (ByteArray.empty, 0) = (e161, e162) ∧ (∃ c164 : ByteArray, (ref22_short_R e161 c164 ∧ ((r71.length + 1 + 192) * (24 + 1) ≤ 70368744177664 ∧ (∃ y166 : List T_api_Hop, y166 = r71 ++ [(c164, 2)] ∧ (ref22_CleanRule_l5 x4 (wi (x6 + 1)) r1_0_0 r1_0_1 r1_0_2 r1_0_3 r1_0_4 r2_0_0 r2_0_1 r2_0_2 r2_0_3 r3_0_0 r3_0_1 r3_0_2 r3_0_3 y166 r76 z_0 z_1 z_2 z_3 z_4))))))))) ∨ (¬ 2147483648 < e148 ∧ (∃ e170 : ByteArray, (∃ e171 : Int, ((r1_0_4.getD (x4).toNat []).getD (x6).toNat (ByteArray.empty, 0) = (e170, e171) ∧ (∃ c173 : ByteArray, (ref22_short_R e170 c173 ∧ ((r71.length + 1 + 192) * (24 + 1) ≤ 70368744177664 ∧ (∃ y175 : List T_api_Hop, y175 = r71 ++ [(c173, e148)] ∧ (ref22_CleanRule_l5 x4 (wi (x6 + 1)) r1_0_0 r1_0_1 r1_0_2 r1_0_3 r1_0_4 r2_0_0 r2_0_1 r2_0_2 r2_0_3 r3_0_0 r3_0_1 r3_0_2 r3_0_3 y175 r76 z_0 z_1 z_2 z_3 z_4))))))))))))))))) ∨ (¬ x6 < 5 ∧ ((r76.length + 1 + 192) * (24 + 1) ≤ 70368744177664 ∧ (∃ y179 : List T71, y179 = r76 ++ [r71] ∧ (ref22_CleanRule_l3 (wi (x4 + 1)) r1_0_0 r1_0_1 r1_0_2 r1_0_3 r1_0_4 r2_0_0 r2_0_1 r2_0_2 r2_0_3 r3_0_0 r3_0_1 r3_0_2 r3_0_3 y179 z_0 z_1 z_2 z_3 z_4)))))) ∨ (¬ x6 < ((r1_0_4.getD (x4).toNat []).length : Int) ∧ ((r76.length + 1 + 192) * (24 + 1) ≤ 70368744177664 ∧ (∃ y183 : List T71, y183 = r76 ++ [r71] ∧ (ref22_CleanRule_l3 (wi (x4 + 1)) r1_0_0 r1_0_1 r1_0_2 r1_0_3 r1_0_4 r2_0_0 r2_0_1 r2_0_2 r2_0_3 r3_0_0 r3_0_1 r3_0_2 r3_0_3 y183 z_0 z_1 z_2 z_3 z_4)))))))) : ref22_CleanRule_l5 x4 x6 r1_0_0 r1_0_1 r1_0_2 r1_0_3 r1_0_4 r2_0_0 r2_0_1 r2_0_2 r2_0_3 r3_0_0 r3_0_1 r3_0_2 r3_0_3 r71 r76 z_0 z_1 z_2 z_3 z_4 := by
 intro n71 ln_71 n76 ln_76 j jb vs
 refine W.adv 1 ?_
 refine W.adv 7 ?_
 obtain ⟨h142, h143, H⟩ := H
 refine W.opS (OpIs.ixE (enc := E71) (n := 1) (k' := .i64) (L := r1_0_4) (i := x4) (d0 := []) (x := (r1_0_4.getD (x4).toNat [])) (by kernel_rfl) h142 h143 rfl) ?_
 refine W.adv 1 ?_
 refine W.opS (OpIs.ln (n := ((r1_0_4.getD (x4).toNat []).map E_api_Hop).length) (m := (r1_0_4.getD (x4).toNat []).length) (by kernel_rfl) (by rw [List.length_map])) ?_
 refine W.adv 2 ?_
 rcases H with ⟨h144, H⟩ | ⟨h144, H⟩
 ·refine W.guard true (w := ((decide (x6 < ((r1_0_4.getD (x4).toNat []).length : Int))) == true)) (by kernel_rfl) (congrArg (fun b => b == true) (decide_eq_true h144)) ?_
  refine W.adv 1 ?_
  refine W.guard true (w := ((decide (x6 < ((r1_0_4.getD (x4).toNat []).length : Int))) == true)) (by kernel_rfl) (congrArg (fun b => b == true) (decide_eq_true h144)) ?_
  refine W.adv 1 ?_
  refine W.opS (OpIs.pk true (t := (decide (x6 < ((r1_0_4.getD (x4).toNat []).length : Int)))) (x := (.bool (decide (x6 < 5)))) (y := (.bool false)) (by kernel_rfl) (decide_eq_true h144)) ?_
  refine W.adv 2 ?_
  rcases H with ⟨h145, H⟩ | ⟨h145, H⟩
  ·refine W.cond true (w := (decide (x6 < 5))) (by kernel_rfl) (decide_eq_true h145) ?_
   refine W.adv 9 ?_
   refine W.opS (OpIs.ixE (enc := E71) (n := 1) (k' := .i64) (L := r1_0_4) (i := x4) (d0 := []) (x := (r1_0_4.getD (x4).toNat [])) (by kernel_rfl) h142 h143 rfl) ?_
   refine W.adv 2 ?_
   obtain ⟨h146, H⟩ := H
   obtain ⟨e147, e148, he149, H⟩ := H
   refine W.opS (OpIs.ixE (enc := E_api_Hop) (n := 2) (k' := .i64) (L := (r1_0_4.getD (x4).toNat [])) (i := x6) (d0 := (ByteArray.empty, 0)) (x := (e147, e148)) (by kernel_rfl) h146 h144 he149) ?_
   refine W.adv 11 ?_
   rcases H with ⟨h150, H⟩ | ⟨h150, H⟩
   ·refine W.guard false (w := ((decide (e148 < (-1000000))) == false)) (by kernel_rfl) (congrArg (fun b => b == false) (decide_eq_true h150)) ?_
    refine W.guard false (w := ((decide (e148 < (-1000000))) == false)) (by kernel_rfl) (congrArg (fun b => b == false) (decide_eq_true h150)) ?_
    refine W.opS (OpIs.pk true (t := (decide (e148 < (-1000000)))) (x := (.bool true)) (y := (.tuple [])) (by kernel_rfl) (decide_eq_true h150)) ?_
    refine W.adv 12 ?_
    refine W.opS (OpIs.ixE (enc := E71) (n := 1) (k' := .i64) (L := r1_0_4) (i := x4) (d0 := []) (x := (r1_0_4.getD (x4).toNat [])) (by kernel_rfl) h142 h143 rfl) ?_
    refine W.adv 2 ?_
    obtain ⟨e151, e152, he153, H⟩ := H
    refine W.opS (OpIs.ixE (enc := E_api_Hop) (n := 2) (k' := .i64) (L := (r1_0_4.getD (x4).toNat [])) (i := x6) (d0 := (ByteArray.empty, 0)) (x := (e151, e152)) (by kernel_rfl) h146 h144 he153) ?_
    refine W.adv 2 ?_
    obtain ⟨c154, hc155, H⟩ := H
    refine W.callR (g := 58) (ds := [.str e151]) (es := [.str e151]) (r := (.str c154)) (by kernel_rfl) (by kernel_rfl) (Ic.args hc155 (by kernel_rfl)) (by kernel_rfl) ?_
    refine W.adv 3 ?_
    obtain ⟨h159, H⟩ := H
    obtain ⟨y156, hy157, H⟩ := H
    have ln158 : (r71.length + 1) = y156.length := by rw [hy157, List.length_append] <;> rfl
    refine W.opK (OpIs.apERow (enc := E_api_Hop) (y := (.lit (.list 2 [(.agg [.str c154, .int .i64 2])]))) (n := 24) (d := 71) (dv := ((vs 71) + 1)) (b := 71) (v := ((vs 71) + 1)) (w := ((vs 71) + 1)) (len := n71) (m := 2) (xs := r71) (ys := [(c154, 2)]) (by kernel_rfl) (by kernel_rfl) hy157 rfl ln_71 h159) ?_
    refine W.adv 10 ?_
    exact W.to_loop (P := ref22_CleanRule_l5_s x4 (wi (x6 + 1)) r1_0_0 r1_0_1 r1_0_2 r1_0_3 r1_0_4 r2_0_0 r2_0_1 r2_0_2 r2_0_3 r3_0_0 r3_0_1 r3_0_2 r3_0_3 y156 r76 (r71.length + 1) n76) (H _ ln158 _ ln_76) (by kernel_rfl)
   ·refine W.guard true (w := ((decide (e148 < (-1000000))) == false)) (by kernel_rfl) (congrArg (fun b => b == false) (decide_eq_false h150)) ?_
    refine W.adv 1 ?_
    refine W.guard true (w := ((decide (e148 < (-1000000))) == false)) (by kernel_rfl) (congrArg (fun b => b == false) (decide_eq_false h150)) ?_
    refine W.adv 1 ?_
    refine W.opS (OpIs.pk false (t := (decide (e148 < (-1000000)))) (x := (.bool true)) (y := (.bool (decide (2147483648 < e148)))) (by kernel_rfl) (decide_eq_false h150)) ?_
    refine W.adv 2 ?_
    rcases H with ⟨h160, H⟩ | ⟨h160, H⟩
    ·refine W.cond true (w := (decide (2147483648 < e148))) (by kernel_rfl) (decide_eq_true h160) ?_
     refine W.adv 9 ?_
     refine W.opS (OpIs.ixE (enc := E71) (n := 1) (k' := .i64) (L := r1_0_4) (i := x4) (d0 := []) (x := (r1_0_4.getD (x4).toNat [])) (by kernel_rfl) h142 h143 rfl) ?_
     refine W.adv 2 ?_
     obtain ⟨e161, e162, he163, H⟩ := H
     refine W.opS (OpIs.ixE (enc := E_api_Hop) (n := 2) (k' := .i64) (L := (r1_0_4.getD (x4).toNat [])) (i := x6) (d0 := (ByteArray.empty, 0)) (x := (e161, e162)) (by kernel_rfl) h146 h144 he163) ?_
     refine W.adv 2 ?_
     obtain ⟨c164, hc165, H⟩ := H
     refine W.callR (g := 58) (ds := [.str e161]) (es := [.str e161]) (r := (.str c164)) (by kernel_rfl) (by kernel_rfl) (Ic.args hc165 (by kernel_rfl)) (by kernel_rfl) ?_
     refine W.adv 3 ?_
     obtain ⟨h169, H⟩ := H
     obtain ⟨y166, hy167, H⟩ := H
     have ln168 : (r71.length + 1) = y166.length := by rw [hy167, List.length_append] <;> rfl
     refine W.opK (OpIs.apERow (enc := E_api_Hop) (y := (.lit (.list 2 [(.agg [.str c164, .int .i64 2])]))) (n := 24) (d := 71) (dv := ((vs 71) + 1)) (b := 71) (v := ((vs 71) + 1)) (w := ((vs 71) + 1)) (len := n71) (m := 2) (xs := r71) (ys := [(c164, 2)]) (by kernel_rfl) (by kernel_rfl) hy167 rfl ln_71 h169) ?_
     refine W.adv 10 ?_
     exact W.to_loop (P := ref22_CleanRule_l5_s x4 (wi (x6 + 1)) r1_0_0 r1_0_1 r1_0_2 r1_0_3 r1_0_4 r2_0_0 r2_0_1 r2_0_2 r2_0_3 r3_0_0 r3_0_1 r3_0_2 r3_0_3 y166 r76 (r71.length + 1) n76) (H _ ln168 _ ln_76) (by kernel_rfl)
    ·refine W.cond false (w := (decide (2147483648 < e148))) (by kernel_rfl) (decide_eq_false h160) ?_
     refine W.adv 7 ?_
     refine W.opS (OpIs.ixE (enc := E71) (n := 1) (k' := .i64) (L := r1_0_4) (i := x4) (d0 := []) (x := (r1_0_4.getD (x4).toNat [])) (by kernel_rfl) h142 h143 rfl) ?_
     refine W.adv 2 ?_
     obtain ⟨e170, e171, he172, H⟩ := H
     refine W.opS (OpIs.ixE (enc := E_api_Hop) (n := 2) (k' := .i64) (L := (r1_0_4.getD (x4).toNat [])) (i := x6) (d0 := (ByteArray.empty, 0)) (x := (e170, e171)) (by kernel_rfl) h146 h144 he172) ?_
     refine W.adv 2 ?_
     obtain ⟨c173, hc174, H⟩ := H
     refine W.callR (g := 58) (ds := [.str e170]) (es := [.str e170]) (r := (.str c173)) (by kernel_rfl) (by kernel_rfl) (Ic.args hc174 (by kernel_rfl)) (by kernel_rfl) ?_
     refine W.adv 3 ?_
     obtain ⟨h178, H⟩ := H
     obtain ⟨y175, hy176, H⟩ := H
     have ln177 : (r71.length + 1) = y175.length := by rw [hy176, List.length_append] <;> rfl
     refine W.opK (OpIs.apERow (enc := E_api_Hop) (y := (.lit (.list 2 [(.agg [.str c173, .int .i64 e148])]))) (n := 24) (d := 71) (dv := ((vs 71) + 1)) (b := 71) (v := ((vs 71) + 1)) (w := ((vs 71) + 1)) (len := n71) (m := 2) (xs := r71) (ys := [(c173, e148)]) (by kernel_rfl) (by kernel_rfl) hy176 rfl ln_71 h178) ?_
     refine W.adv 10 ?_
     exact W.to_loop (P := ref22_CleanRule_l5_s x4 (wi (x6 + 1)) r1_0_0 r1_0_1 r1_0_2 r1_0_3 r1_0_4 r2_0_0 r2_0_1 r2_0_2 r2_0_3 r3_0_0 r3_0_1 r3_0_2 r3_0_3 y175 r76 (r71.length + 1) n76) (H _ ln177 _ ln_76) (by kernel_rfl)
  ·refine W.cond false (w := (decide (x6 < 5))) (by kernel_rfl) (decide_eq_false h145) ?_
   refine W.adv 9 ?_
   refine W.opF (OpIs.bs (t := 61) (len := 1) (is := [0]) (vs := [(.sref 71 ((vs 71) + 1) 2 0 n71)]) (es := [(.list 2 (r71.map E_api_Hop))]) (d := (.lit (.list 1 [(.list 2 (r71.map E_api_Hop))]))) (by kernel_rfl) (rf_cons (rf_fullE (enc := E_api_Hop) E_api_Hop_t (b := 71) (v := ((vs 71) + 1)) (w := ((vs 71) + 1)) (fz := false) (xs := r71) (by kernel_rfl) rfl ln_71) rf_nil) (by kernel_rfl) rfl) ?_
   obtain ⟨h182, H⟩ := H
   obtain ⟨y179, hy180, H⟩ := H
   have ln181 : (r76.length + 1) = y179.length := by rw [hy180, List.length_append] <;> rfl
   refine W.opK (OpIs.apERow (enc := E71) (y := (.lit (.list 1 [(.list 2 (r71.map E_api_Hop))]))) (n := 24) (d := 76) (dv := ((vs 76) + 1)) (b := 76) (v := ((vs 76) + 1)) (w := ((vs 76) + 1)) (len := n76) (m := 1) (xs := r76) (ys := [r71]) (by kernel_rfl) (by kernel_rfl) hy180 rfl ln_76 h182) ?_
   refine W.adv 11 ?_
   exact W.to_loop (P := ref22_CleanRule_l3_s (wi (x4 + 1)) r1_0_0 r1_0_1 r1_0_2 r1_0_3 r1_0_4 r2_0_0 r2_0_1 r2_0_2 r2_0_3 r3_0_0 r3_0_1 r3_0_2 r3_0_3 y179 (r76.length + 1)) (H _ ln181) (by kernel_rfl)
 ·refine W.guard false (w := ((decide (x6 < ((r1_0_4.getD (x4).toNat []).length : Int))) == true)) (by kernel_rfl) (congrArg (fun b => b == true) (decide_eq_false h144)) ?_
  refine W.guard false (w := ((decide (x6 < ((r1_0_4.getD (x4).toNat []).length : Int))) == true)) (by kernel_rfl) (congrArg (fun b => b == true) (decide_eq_false h144)) ?_
  refine W.opS (OpIs.pk false (t := (decide (x6 < ((r1_0_4.getD (x4).toNat []).length : Int)))) (x := (.tuple [])) (y := (.bool false)) (by kernel_rfl) (decide_eq_false h144)) ?_
  refine W.adv 12 ?_
  refine W.opF (OpIs.bs (t := 61) (len := 1) (is := [0]) (vs := [(.sref 71 ((vs 71) + 1) 2 0 n71)]) (es := [(.list 2 (r71.map E_api_Hop))]) (d := (.lit (.list 1 [(.list 2 (r71.map E_api_Hop))]))) (by kernel_rfl) (rf_cons (rf_fullE (enc := E_api_Hop) E_api_Hop_t (b := 71) (v := ((vs 71) + 1)) (w := ((vs 71) + 1)) (fz := false) (xs := r71) (by kernel_rfl) rfl ln_71) rf_nil) (by kernel_rfl) rfl) ?_
  obtain ⟨h186, H⟩ := H
  obtain ⟨y183, hy184, H⟩ := H
  have ln185 : (r76.length + 1) = y183.length := by rw [hy184, List.length_append] <;> rfl
  refine W.opK (OpIs.apERow (enc := E71) (y := (.lit (.list 1 [(.list 2 (r71.map E_api_Hop))]))) (n := 24) (d := 76) (dv := ((vs 76) + 1)) (b := 76) (v := ((vs 76) + 1)) (w := ((vs 76) + 1)) (len := n76) (m := 1) (xs := r76) (ys := [r71]) (by kernel_rfl) (by kernel_rfl) hy184 rfl ln_76 h186) ?_
  refine W.adv 11 ?_
  exact W.to_loop (P := ref22_CleanRule_l3_s (wi (x4 + 1)) r1_0_0 r1_0_1 r1_0_2 r1_0_3 r1_0_4 r2_0_0 r2_0_1 r2_0_2 r2_0_3 r3_0_0 r3_0_1 r3_0_2 r3_0_3 y183 (r76.length + 1)) (H _ ln185) (by kernel_rfl)
theorem ref22_CleanRule_go {a0_0 : ByteArray} {a0_1 : Int} {a0_2 : Int} {a0_3 : Bool} {a0_4 : List T71} {z_0 : ByteArray} {z_1 : Int} {z_2 : Int} {z_3 : Bool} {z_4 : List T71} (H : (∃ c1 : ByteArray, (ref22_short_R a0_0 c1 ∧ (ref22_CleanRule_l0 0 a0_0 a0_1 a0_2 a0_3 a0_4 (⟨#[]⟩) 0 0 false c1 a0_1 a0_2 a0_3 z_0 z_1 z_2 z_3 z_4)))) : ref22_CleanRule_R a0_0 a0_1 a0_2 a0_3 a0_4 z_0 z_1 z_2 z_3 z_4 := by
 refine W.ic (zs := [(.agg [.str a0_0, .int .u32 a0_1, .int .i64 a0_2, .bool a0_3, (.list 1 (a0_4.map E71))])]) Tryz.func16 (by kernel_rfl) (by kernel_rfl) (by kernel_rfl) (by kernel_rfl) ?_
 refine W.adv 10 ?_
 obtain ⟨c1, hc2, H⟩ := H
 refine W.callR (g := 58) (ds := [.str a0_0]) (es := [.str a0_0]) (r := (.str c1)) (by kernel_rfl) (by kernel_rfl) (Ic.args hc2 (by kernel_rfl)) (by kernel_rfl) ?_
 refine W.adv 16 ?_
 exact W.to_loop (P := ref22_CleanRule_l0_s 0 a0_0 a0_1 a0_2 a0_3 a0_4 (⟨#[]⟩) 0 0 false c1 a0_1 a0_2 a0_3) (H ) (by kernel_rfl)
noncomputable def ref24_Out_l0_s (x4 : Int) (r1_0_0 : ByteArray) (r1_0_1 : Int) (r1_0_2 : Int) (r1_0_3 : Bool) (r1_0_4 : List T71) (j : Nat → D) (jb : Nat → Blk) (vs : Nat → Nat) : Cf := cfAt Tryz.f17 [1, 1, 0, 1, 0] ⟨[j 0, .pref 1 1 0 0, j 2, .nilS, .int .i64 x4, j 5, j 6, j 7, j 8, j 9, j 10, j 11, j 12, j 13, j 14, j 15, j 16, j 17, j 18, j 19, j 20, j 21, j 22, j 23, j 24, j 25, j 26, j 27, j 28, j 29, j 30, j 31, j 32, j 33, j 34, j 35, j 36, j 37, j 38, j 39, j 40, j 41, j 42, j 43, j 44, j 45, j 46, j 47, j 48, j 49, j 50, j 51, j 52, j 53, j 54, j 55, j 56, j 57, j 58, j 59, j 60, j 61, j 62, j 63], [jb 0, ⟨1, false, .rows 5 [(.agg [.str r1_0_0, .int .u32 r1_0_1, .int .i64 r1_0_2, .bool r1_0_3, (.list 1 (r1_0_4.map E71))])]⟩, jb 2, jb 3, jb 4, jb 5, jb 6, jb 7, jb 8, jb 9, jb 10, jb 11, jb 12, jb 13, jb 14, jb 15, jb 16, jb 17, jb 18, jb 19, jb 20, jb 21, jb 22, jb 23, jb 24, jb 25, jb 26, jb 27, jb 28, jb 29, jb 30, jb 31, jb 32, jb 33, jb 34, jb 35, jb 36, jb 37, jb 38, jb 39, jb 40, jb 41, jb 42, jb 43, jb 44, jb 45, jb 46, jb 47, jb 48, jb 49, jb 50, jb 51, jb 52, jb 53, jb 54, jb 55, jb 56, jb 57, jb 58, jb 59, jb 60, jb 61, jb 62, jb 63]⟩
def ref24_Out_l0 (x4 : Int) (r1_0_0 : ByteArray) (r1_0_1 : Int) (r1_0_2 : Int) (r1_0_3 : Bool) (r1_0_4 : List T71) (z : List T_string) : Prop := ∀ j jb vs, W C F 17 0 (ref24_Out_l0_s x4 r1_0_0 r1_0_1 r1_0_2 r1_0_3 r1_0_4  j jb vs) (Ans C Tryz.f17 (.list 1 (z.map E_string)))
noncomputable def ref24_Out_l1_s (x4 : Int) (x5 : Int) (r1_0_0 : ByteArray) (r1_0_1 : Int) (r1_0_2 : Int) (r1_0_3 : Bool) (r1_0_4 : List T71) (j : Nat → D) (jb : Nat → Blk) (vs : Nat → Nat) : Cf := cfAt Tryz.f17 [1, 1, 0, 1, 0, 0, 1, 0, 0, 1, 0] ⟨[j 0, .pref 1 1 0 0, j 2, .nilS, .int .i64 x4, .int .i64 x5, j 6, j 7, j 8, j 9, j 10, j 11, j 12, j 13, j 14, j 15, j 16, j 17, j 18, j 19, j 20, j 21, j 22, j 23, j 24, j 25, j 26, j 27, j 28, j 29, j 30, j 31, j 32, j 33, j 34, j 35, j 36, j 37, j 38, j 39, j 40, j 41, j 42, j 43, j 44, j 45, j 46, j 47, j 48, j 49, j 50, j 51, j 52, j 53, j 54, j 55, j 56, j 57, j 58, j 59, j 60, j 61, j 62, j 63], [jb 0, ⟨1, false, .rows 5 [(.agg [.str r1_0_0, .int .u32 r1_0_1, .int .i64 r1_0_2, .bool r1_0_3, (.list 1 (r1_0_4.map E71))])]⟩, jb 2, jb 3, jb 4, jb 5, jb 6, jb 7, jb 8, jb 9, jb 10, jb 11, jb 12, jb 13, jb 14, jb 15, jb 16, jb 17, jb 18, jb 19, jb 20, jb 21, jb 22, jb 23, jb 24, jb 25, jb 26, jb 27, jb 28, jb 29, jb 30, jb 31, jb 32, jb 33, jb 34, jb 35, jb 36, jb 37, jb 38, jb 39, jb 40, jb 41, jb 42, jb 43, jb 44, jb 45, jb 46, jb 47, jb 48, jb 49, jb 50, jb 51, jb 52, jb 53, jb 54, jb 55, jb 56, jb 57, jb 58, jb 59, jb 60, jb 61, jb 62, jb 63]⟩
def ref24_Out_l1 (x4 : Int) (x5 : Int) (r1_0_0 : ByteArray) (r1_0_1 : Int) (r1_0_2 : Int) (r1_0_3 : Bool) (r1_0_4 : List T71) (z : List T_string) : Prop := ∀ j jb vs, W C F 17 0 (ref24_Out_l1_s x4 x5 r1_0_0 r1_0_1 r1_0_2 r1_0_3 r1_0_4  j jb vs) (Ans C Tryz.f17 (.list 1 (z.map E_string)))
noncomputable def ref24_Out_l2_s (x4 : Int) (x5 : Int) (x6 : Bool) (x7 : Int) (r1_0_0 : ByteArray) (r1_0_1 : Int) (r1_0_2 : Int) (r1_0_3 : Bool) (r1_0_4 : List T71) (j : Nat → D) (jb : Nat → Blk) (vs : Nat → Nat) : Cf := cfAt Tryz.f17 [1, 1, 0, 1, 0, 0, 1, 0, 0, 1, 0, 0, 1, 0, 0, 1, 0, 1, 0] ⟨[j 0, .pref 1 1 0 0, j 2, .nilS, .int .i64 x4, .int .i64 x5, .bool x6, .int .i64 x7, j 8, j 9, j 10, j 11, j 12, j 13, j 14, j 15, j 16, j 17, j 18, j 19, j 20, j 21, j 22, j 23, j 24, j 25, j 26, j 27, j 28, j 29, j 30, j 31, j 32, j 33, j 34, j 35, j 36, j 37, j 38, j 39, j 40, j 41, j 42, j 43, j 44, j 45, j 46, j 47, j 48, j 49, j 50, j 51, j 52, j 53, j 54, j 55, j 56, j 57, j 58, j 59, j 60, j 61, j 62, j 63], [jb 0, ⟨1, false, .rows 5 [(.agg [.str r1_0_0, .int .u32 r1_0_1, .int .i64 r1_0_2, .bool r1_0_3, (.list 1 (r1_0_4.map E71))])]⟩, jb 2, jb 3, jb 4, jb 5, jb 6, jb 7, jb 8, jb 9, jb 10, jb 11, jb 12, jb 13, jb 14, jb 15, jb 16, jb 17, jb 18, jb 19, jb 20, jb 21, jb 22, jb 23, jb 24, jb 25, jb 26, jb 27, jb 28, jb 29, jb 30, jb 31, jb 32, jb 33, jb 34, jb 35, jb 36, jb 37, jb 38, jb 39, jb 40, jb 41, jb 42, jb 43, jb 44, jb 45, jb 46, jb 47, jb 48, jb 49, jb 50, jb 51, jb 52, jb 53, jb 54, jb 55, jb 56, jb 57, jb 58, jb 59, jb 60, jb 61, jb 62, jb 63]⟩
def ref24_Out_l2 (x4 : Int) (x5 : Int) (x6 : Bool) (x7 : Int) (r1_0_0 : ByteArray) (r1_0_1 : Int) (r1_0_2 : Int) (r1_0_3 : Bool) (r1_0_4 : List T71) (z : List T_string) : Prop := ∀ j jb vs, W C F 17 0 (ref24_Out_l2_s x4 x5 x6 x7 r1_0_0 r1_0_1 r1_0_2 r1_0_3 r1_0_4  j jb vs) (Ans C Tryz.f17 (.list 1 (z.map E_string)))
noncomputable def ref24_Out_l3_s (x4 : Int) (x5 : Int) (r1_0_0 : ByteArray) (r1_0_1 : Int) (r1_0_2 : Int) (r1_0_3 : Bool) (r1_0_4 : List T71) (r62 : List T_string) (n62 : Nat) (j : Nat → D) (jb : Nat → Blk) (vs : Nat → Nat) : Cf := cfAt Tryz.f17 [1, 1, 0, 1, 0, 0, 1, 0, 0, 1, 0] ⟨[j 0, .pref 1 1 0 0, j 2, (.sref 62 ((vs 62) + 1) 1 0 n62), .int .i64 x4, .int .i64 x5, j 6, j 7, j 8, j 9, j 10, j 11, j 12, j 13, j 14, j 15, j 16, j 17, j 18, j 19, j 20, j 21, j 22, j 23, j 24, j 25, j 26, j 27, j 28, j 29, j 30, j 31, j 32, j 33, j 34, j 35, j 36, j 37, j 38, j 39, j 40, j 41, j 42, j 43, j 44, j 45, j 46, j 47, j 48, j 49, j 50, j 51, j 52, j 53, j 54, j 55, j 56, j 57, j 58, j 59, j 60, j 61, j 62, j 63], [jb 0, ⟨1, false, .rows 5 [(.agg [.str r1_0_0, .int .u32 r1_0_1, .int .i64 r1_0_2, .bool r1_0_3, (.list 1 (r1_0_4.map E71))])]⟩, jb 2, jb 3, jb 4, jb 5, jb 6, jb 7, jb 8, jb 9, jb 10, jb 11, jb 12, jb 13, jb 14, jb 15, jb 16, jb 17, jb 18, jb 19, jb 20, jb 21, jb 22, jb 23, jb 24, jb 25, jb 26, jb 27, jb 28, jb 29, jb 30, jb 31, jb 32, jb 33, jb 34, jb 35, jb 36, jb 37, jb 38, jb 39, jb 40, jb 41, jb 42, jb 43, jb 44, jb 45, jb 46, jb 47, jb 48, jb 49, jb 50, jb 51, jb 52, jb 53, jb 54, jb 55, jb 56, jb 57, jb 58, jb 59, jb 60, jb 61, ⟨((vs 62) + 1), false, .rows 1 (r62.map E_string)⟩, jb 63]⟩
def ref24_Out_l3 (x4 : Int) (x5 : Int) (r1_0_0 : ByteArray) (r1_0_1 : Int) (r1_0_2 : Int) (r1_0_3 : Bool) (r1_0_4 : List T71) (r62 : List T_string) (z : List T_string) : Prop := ∀ n62, n62 = r62.length → ∀ j jb vs, W C F 17 0 (ref24_Out_l3_s x4 x5 r1_0_0 r1_0_1 r1_0_2 r1_0_3 r1_0_4 r62 n62 j jb vs) (Ans C Tryz.f17 (.list 1 (z.map E_string)))
noncomputable def ref24_Out_l4_s (x4 : Int) (x5 : Int) (x6 : Bool) (x7 : Int) (r1_0_0 : ByteArray) (r1_0_1 : Int) (r1_0_2 : Int) (r1_0_3 : Bool) (r1_0_4 : List T71) (r62 : List T_string) (n62 : Nat) (j : Nat → D) (jb : Nat → Blk) (vs : Nat → Nat) : Cf := cfAt Tryz.f17 [1, 1, 0, 1, 0, 0, 1, 0, 0, 1, 0, 0, 1, 0, 0, 1, 0, 1, 0] ⟨[j 0, .pref 1 1 0 0, j 2, (.sref 62 ((vs 62) + 1) 1 0 n62), .int .i64 x4, .int .i64 x5, .bool x6, .int .i64 x7, j 8, j 9, j 10, j 11, j 12, j 13, j 14, j 15, j 16, j 17, j 18, j 19, j 20, j 21, j 22, j 23, j 24, j 25, j 26, j 27, j 28, j 29, j 30, j 31, j 32, j 33, j 34, j 35, j 36, j 37, j 38, j 39, j 40, j 41, j 42, j 43, j 44, j 45, j 46, j 47, j 48, j 49, j 50, j 51, j 52, j 53, j 54, j 55, j 56, j 57, j 58, j 59, j 60, j 61, j 62, j 63], [jb 0, ⟨1, false, .rows 5 [(.agg [.str r1_0_0, .int .u32 r1_0_1, .int .i64 r1_0_2, .bool r1_0_3, (.list 1 (r1_0_4.map E71))])]⟩, jb 2, jb 3, jb 4, jb 5, jb 6, jb 7, jb 8, jb 9, jb 10, jb 11, jb 12, jb 13, jb 14, jb 15, jb 16, jb 17, jb 18, jb 19, jb 20, jb 21, jb 22, jb 23, jb 24, jb 25, jb 26, jb 27, jb 28, jb 29, jb 30, jb 31, jb 32, jb 33, jb 34, jb 35, jb 36, jb 37, jb 38, jb 39, jb 40, jb 41, jb 42, jb 43, jb 44, jb 45, jb 46, jb 47, jb 48, jb 49, jb 50, jb 51, jb 52, jb 53, jb 54, jb 55, jb 56, jb 57, jb 58, jb 59, jb 60, jb 61, ⟨((vs 62) + 1), false, .rows 1 (r62.map E_string)⟩, jb 63]⟩
def ref24_Out_l4 (x4 : Int) (x5 : Int) (x6 : Bool) (x7 : Int) (r1_0_0 : ByteArray) (r1_0_1 : Int) (r1_0_2 : Int) (r1_0_3 : Bool) (r1_0_4 : List T71) (r62 : List T_string) (z : List T_string) : Prop := ∀ n62, n62 = r62.length → ∀ j jb vs, W C F 17 0 (ref24_Out_l4_s x4 x5 x6 x7 r1_0_0 r1_0_1 r1_0_2 r1_0_3 r1_0_4 r62 n62 j jb vs) (Ans C Tryz.f17 (.list 1 (z.map E_string)))
noncomputable def ref24_Out_l5_s (x4 : Int) (r1_0_0 : ByteArray) (r1_0_1 : Int) (r1_0_2 : Int) (r1_0_3 : Bool) (r1_0_4 : List T71) (r62 : List T_string) (n62 : Nat) (j : Nat → D) (jb : Nat → Blk) (vs : Nat → Nat) : Cf := cfAt Tryz.f17 [1, 1, 0, 1, 0] ⟨[j 0, .pref 1 1 0 0, j 2, (.sref 62 ((vs 62) + 1) 1 0 n62), .int .i64 x4, j 5, j 6, j 7, j 8, j 9, j 10, j 11, j 12, j 13, j 14, j 15, j 16, j 17, j 18, j 19, j 20, j 21, j 22, j 23, j 24, j 25, j 26, j 27, j 28, j 29, j 30, j 31, j 32, j 33, j 34, j 35, j 36, j 37, j 38, j 39, j 40, j 41, j 42, j 43, j 44, j 45, j 46, j 47, j 48, j 49, j 50, j 51, j 52, j 53, j 54, j 55, j 56, j 57, j 58, j 59, j 60, j 61, j 62, j 63], [jb 0, ⟨1, false, .rows 5 [(.agg [.str r1_0_0, .int .u32 r1_0_1, .int .i64 r1_0_2, .bool r1_0_3, (.list 1 (r1_0_4.map E71))])]⟩, jb 2, jb 3, jb 4, jb 5, jb 6, jb 7, jb 8, jb 9, jb 10, jb 11, jb 12, jb 13, jb 14, jb 15, jb 16, jb 17, jb 18, jb 19, jb 20, jb 21, jb 22, jb 23, jb 24, jb 25, jb 26, jb 27, jb 28, jb 29, jb 30, jb 31, jb 32, jb 33, jb 34, jb 35, jb 36, jb 37, jb 38, jb 39, jb 40, jb 41, jb 42, jb 43, jb 44, jb 45, jb 46, jb 47, jb 48, jb 49, jb 50, jb 51, jb 52, jb 53, jb 54, jb 55, jb 56, jb 57, jb 58, jb 59, jb 60, jb 61, ⟨((vs 62) + 1), false, .rows 1 (r62.map E_string)⟩, jb 63]⟩
def ref24_Out_l5 (x4 : Int) (r1_0_0 : ByteArray) (r1_0_1 : Int) (r1_0_2 : Int) (r1_0_3 : Bool) (r1_0_4 : List T71) (r62 : List T_string) (z : List T_string) : Prop := ∀ n62, n62 = r62.length → ∀ j jb vs, W C F 17 0 (ref24_Out_l5_s x4 r1_0_0 r1_0_1 r1_0_2 r1_0_3 r1_0_4 r62 n62 j jb vs) (Ans C Tryz.f17 (.list 1 (z.map E_string)))
theorem ref24_Out_l0_go {x4 : Int} {r1_0_0 : ByteArray} {r1_0_1 : Int} {r1_0_2 : Int} {r1_0_3 : Bool} {r1_0_4 : List T71} {z : List T_string} (H : ((x4 < (r1_0_4.length : Int) ∧ (ref24_Out_l1 x4 0 r1_0_0 r1_0_1 r1_0_2 r1_0_3 r1_0_4 z)) ∨ (¬ x4 < (r1_0_4.length : Int) ∧ (z = ([] : List T_string))))) : ref24_Out_l0 x4 r1_0_0 r1_0_1 r1_0_2 r1_0_3 r1_0_4 z := by
 intro j jb vs
 refine W.adv 1 ?_
 refine W.adv 6 ?_
 refine W.opS (OpIs.ln (n := (r1_0_4.map E71).length) (m := r1_0_4.length) (by kernel_rfl) (by rw [List.length_map])) ?_
 refine W.adv 3 ?_
 rcases H with ⟨h1, H⟩ | ⟨h1, H⟩
 ·refine W.cond true (w := (decide (x4 < (r1_0_4.length : Int)))) (by kernel_rfl) (decide_eq_true h1) ?_
  refine W.adv 10 ?_
  exact W.to_loop (P := ref24_Out_l1_s x4 0 r1_0_0 r1_0_1 r1_0_2 r1_0_3 r1_0_4) (H ) (by kernel_rfl)
 ·refine W.cond false (w := (decide (x4 < (r1_0_4.length : Int)))) (by kernel_rfl) (decide_eq_false h1) ?_
  refine W.adv 12 ?_
  exact W.fin (x := .ret) (by kernel_rfl) (Ans.of (d := .nilS) (d' := .nilS) (e' := (.list 1 (([] : List T_string).map E_string))) (by kernel_rfl) (by kernel_rfl) (by kernel_rfl) (by rw [H]))
theorem ref24_Out_l1_go {x4 : Int} {x5 : Int} {r1_0_0 : ByteArray} {r1_0_1 : Int} {r1_0_2 : Int} {r1_0_3 : Bool} {r1_0_4 : List T71} {z : List T_string} (H : (0 ≤ x4 ∧ (x4 < (r1_0_4.length : Int) ∧ ((x5 < ((r1_0_4.getD (x4).toNat []).length : Int) ∧ (ref24_Out_l2 x4 x5 false 0 r1_0_0 r1_0_1 r1_0_2 r1_0_3 r1_0_4 z)) ∨ (¬ x5 < ((r1_0_4.getD (x4).toNat []).length : Int) ∧ (ref24_Out_l0 (wi (x4 + 1)) r1_0_0 r1_0_1 r1_0_2 r1_0_3 r1_0_4 z)))))) : ref24_Out_l1 x4 x5 r1_0_0 r1_0_1 r1_0_2 r1_0_3 r1_0_4 z := by
 intro j jb vs
 refine W.adv 1 ?_
 refine W.adv 7 ?_
 obtain ⟨h2, h3, H⟩ := H
 refine W.opS (OpIs.ixE (enc := E71) (n := 1) (k' := .i64) (L := r1_0_4) (i := x4) (d0 := []) (x := (r1_0_4.getD (x4).toNat [])) (by kernel_rfl) h2 h3 rfl) ?_
 refine W.adv 1 ?_
 refine W.opS (OpIs.ln (n := ((r1_0_4.getD (x4).toNat []).map E_api_Hop).length) (m := (r1_0_4.getD (x4).toNat []).length) (by kernel_rfl) (by rw [List.length_map])) ?_
 refine W.adv 3 ?_
 rcases H with ⟨h4, H⟩ | ⟨h4, H⟩
 ·refine W.cond true (w := (decide (x5 < ((r1_0_4.getD (x4).toNat []).length : Int)))) (by kernel_rfl) (decide_eq_true h4) ?_
  refine W.adv 16 ?_
  exact W.to_loop (P := ref24_Out_l2_s x4 x5 false 0 r1_0_0 r1_0_1 r1_0_2 r1_0_3 r1_0_4) (H ) (by kernel_rfl)
 ·refine W.cond false (w := (decide (x5 < ((r1_0_4.getD (x4).toNat []).length : Int)))) (by kernel_rfl) (decide_eq_false h4) ?_
  refine W.adv 12 ?_
  exact W.to_loop (P := ref24_Out_l0_s (wi (x4 + 1)) r1_0_0 r1_0_1 r1_0_2 r1_0_3 r1_0_4) (H ) (by kernel_rfl)
theorem ref24_Out_l2_go {x4 : Int} {x5 : Int} {x6 : Bool} {x7 : Int} {r1_0_0 : ByteArray} {r1_0_1 : Int} {r1_0_2 : Int} {r1_0_3 : Bool} {r1_0_4 : List T71} {z : List T_string} (H : ((x7 < 0 ∧ (x6 = true ∧ (ref24_Out_l2 x4 x5 true (wi (x7 + 1)) r1_0_0 r1_0_1 r1_0_2 r1_0_3 r1_0_4 z))) ∨ (¬ x7 < 0 ∧ ((x6 = true ∧ (ref24_Out_l1 x4 (wi (x5 + 1)) r1_0_0 r1_0_1 r1_0_2 r1_0_3 r1_0_4 z)) ∨ (¬ x6 = true ∧ (0 ≤ x4 ∧ (x4 < (r1_0_4.length : Int) ∧ (0 ≤ x5 ∧ (x5 < ((r1_0_4.getD (x4).toNat []).length : Int) ∧ (∃ e12 : ByteArray, (∃ e13 : Int, ((r1_0_4.getD (x4).toNat []).getD (x5).toNat (ByteArray.empty, 0) = (e12, e13) ∧ ((1 + 192) * (16 + 1) ≤ 70368744177664 ∧ (∃ y15 : List T_string, y15 = [e12] ∧ (ref24_Out_l3 x4 (wi (x5 + 1)) r1_0_0 r1_0_1 r1_0_2 r1_0_3 r1_0_4 y15 z))))))))))))))) : ref24_Out_l2 x4 x5 x6 x7 r1_0_0 r1_0_1 r1_0_2 r1_0_3 r1_0_4 z := by
 intro j jb vs
 refine W.adv 1 ?_
 refine W.adv 9 ?_
 rcases H with ⟨h5, H⟩ | ⟨h5, H⟩
 ·refine W.cond true (w := (decide (x7 < 0))) (by kernel_rfl) (decide_eq_true h5) ?_
  refine W.adv 7 ?_
  obtain ⟨h6, H⟩ := H
  refine W.guard false (w := (x6 == false)) (by kernel_rfl) (congrArg (fun b => b == false) h6) ?_
  refine W.guard false (w := (x6 == false)) (by kernel_rfl) (congrArg (fun b => b == false) h6) ?_
  refine W.guard false (w := (x6 == false)) (by kernel_rfl) (congrArg (fun b => b == false) h6) ?_
  refine W.guard false (w := (x6 == false)) (by kernel_rfl) (congrArg (fun b => b == false) h6) ?_
  refine W.guard false (w := (x6 == false)) (by kernel_rfl) (congrArg (fun b => b == false) h6) ?_
  refine W.guard false (w := (x6 == false)) (by kernel_rfl) (congrArg (fun b => b == false) h6) ?_
  refine W.guard false (w := (x6 == false)) (by kernel_rfl) (congrArg (fun b => b == false) h6) ?_
  refine W.guard false (w := (x6 == false)) (by kernel_rfl) (congrArg (fun b => b == false) h6) ?_
  refine W.guard false (w := (x6 == false)) (by kernel_rfl) (congrArg (fun b => b == false) h6) ?_
  refine W.guard false (w := (x6 == false)) (by kernel_rfl) (congrArg (fun b => b == false) h6) ?_
  refine W.guard false (w := (x6 == false)) (by kernel_rfl) (congrArg (fun b => b == false) h6) ?_
  refine W.guard false (w := (x6 == false)) (by kernel_rfl) (congrArg (fun b => b == false) h6) ?_
  refine W.guard false (w := (x6 == false)) (by kernel_rfl) (congrArg (fun b => b == false) h6) ?_
  refine W.guard false (w := (x6 == false)) (by kernel_rfl) (congrArg (fun b => b == false) h6) ?_
  refine W.opS (OpIs.pk true (t := x6) (x := (.bool true)) (y := (.tuple [])) (by kernel_rfl) h6) ?_
  refine W.adv 10 ?_
  exact W.to_loop (P := ref24_Out_l2_s x4 x5 true (wi (x7 + 1)) r1_0_0 r1_0_1 r1_0_2 r1_0_3 r1_0_4) (H ) (by kernel_rfl)
 ·refine W.cond false (w := (decide (x7 < 0))) (by kernel_rfl) (decide_eq_false h5) ?_
  refine W.adv 11 ?_
  rcases H with ⟨h7, H⟩ | ⟨h7, H⟩
  ·refine W.cond false (w := (!x6)) (by kernel_rfl) (congrArg (fun b => !b) h7) ?_
   refine W.adv 9 ?_
   exact W.to_loop (P := ref24_Out_l1_s x4 (wi (x5 + 1)) r1_0_0 r1_0_1 r1_0_2 r1_0_3 r1_0_4) (H ) (by kernel_rfl)
  ·refine W.cond true (w := (!x6)) (by kernel_rfl) (congrArg (fun b => !b) (bfalse h7)) ?_
   refine W.adv 5 ?_
   obtain ⟨h8, h9, H⟩ := H
   refine W.opS (OpIs.ixE (enc := E71) (n := 1) (k' := .i64) (L := r1_0_4) (i := x4) (d0 := []) (x := (r1_0_4.getD (x4).toNat [])) (by kernel_rfl) h8 h9 rfl) ?_
   refine W.adv 2 ?_
   obtain ⟨h10, h11, H⟩ := H
   obtain ⟨e12, e13, he14, H⟩ := H
   refine W.opS (OpIs.ixE (enc := E_api_Hop) (n := 2) (k' := .i64) (L := (r1_0_4.getD (x4).toNat [])) (i := x5) (d0 := (ByteArray.empty, 0)) (x := (e12, e13)) (by kernel_rfl) h10 h11 he14) ?_
   refine W.adv 3 ?_
   obtain ⟨h18, H⟩ := H
   obtain ⟨y15, hy16, H⟩ := H
   have ln17 : 1 = y15.length := by rw [hy16] <;> rfl
   refine W.opH (OpIs.apENil (enc := E_string) (y := (.lit (.list 1 [.str e12]))) (B := none) (n := 16) (d := 62) (v := (jb 62).ver) (m := 1) (ys := [e12]) (by kernel_rfl) (by kernel_rfl) hy16 h18) ?_
   refine W.adv 10 ?_
   exact W.to_loop (P := ref24_Out_l3_s x4 (wi (x5 + 1)) r1_0_0 r1_0_1 r1_0_2 r1_0_3 r1_0_4 y15 1) (H _ ln17) (by kernel_rfl)
theorem ref24_Out_l3_go {x4 : Int} {x5 : Int} {r1_0_0 : ByteArray} {r1_0_1 : Int} {r1_0_2 : Int} {r1_0_3 : Bool} {r1_0_4 : List T71} {r62 : List T_string} {z : List T_string} (H : (0 ≤ x4 ∧ (x4 < (r1_0_4.length : Int) ∧ ((x5 < ((r1_0_4.getD (x4).toNat []).length : Int) ∧ (ref24_Out_l4 x4 x5 false 0 r1_0_0 r1_0_1 r1_0_2 r1_0_3 r1_0_4 r62 z)) ∨ (¬ x5 < ((r1_0_4.getD (x4).toNat []).length : Int) ∧ (ref24_Out_l5 (wi (x4 + 1)) r1_0_0 r1_0_1 r1_0_2 r1_0_3 r1_0_4 r62 z)))))) : ref24_Out_l3 x4 x5 r1_0_0 r1_0_1 r1_0_2 r1_0_3 r1_0_4 r62 z := by
 intro n62 ln_62 j jb vs
 refine W.adv 1 ?_
 refine W.adv 7 ?_
 obtain ⟨h19, h20, H⟩ := H
 refine W.opS (OpIs.ixE (enc := E71) (n := 1) (k' := .i64) (L := r1_0_4) (i := x4) (d0 := []) (x := (r1_0_4.getD (x4).toNat [])) (by kernel_rfl) h19 h20 rfl) ?_
 refine W.adv 1 ?_
 refine W.opS (OpIs.ln (n := ((r1_0_4.getD (x4).toNat []).map E_api_Hop).length) (m := (r1_0_4.getD (x4).toNat []).length) (by kernel_rfl) (by rw [List.length_map])) ?_
 refine W.adv 3 ?_
 rcases H with ⟨h21, H⟩ | ⟨h21, H⟩
 ·refine W.cond true (w := (decide (x5 < ((r1_0_4.getD (x4).toNat []).length : Int)))) (by kernel_rfl) (decide_eq_true h21) ?_
  refine W.adv 16 ?_
  exact W.to_loop (P := ref24_Out_l4_s x4 x5 false 0 r1_0_0 r1_0_1 r1_0_2 r1_0_3 r1_0_4 r62 n62) (H _ ln_62) (by kernel_rfl)
 ·refine W.cond false (w := (decide (x5 < ((r1_0_4.getD (x4).toNat []).length : Int)))) (by kernel_rfl) (decide_eq_false h21) ?_
  refine W.adv 12 ?_
  exact W.to_loop (P := ref24_Out_l5_s (wi (x4 + 1)) r1_0_0 r1_0_1 r1_0_2 r1_0_3 r1_0_4 r62 n62) (H _ ln_62) (by kernel_rfl)
theorem ref24_Out_l4_go {x4 : Int} {x5 : Int} {x6 : Bool} {x7 : Int} {r1_0_0 : ByteArray} {r1_0_1 : Int} {r1_0_2 : Int} {r1_0_3 : Bool} {r1_0_4 : List T71} {r62 : List T_string} {z : List T_string} (H : ((x7 < (r62.length : Int) ∧ ((x6 = true ∧ (ref24_Out_l4 x4 x5 true (wi (x7 + 1)) r1_0_0 r1_0_1 r1_0_2 r1_0_3 r1_0_4 r62 z)) ∨ (¬ x6 = true ∧ (0 ≤ x7 ∧ (0 ≤ x4 ∧ (x4 < (r1_0_4.length : Int) ∧ (0 ≤ x5 ∧ (x5 < ((r1_0_4.getD (x4).toNat []).length : Int) ∧ (∃ e29 : ByteArray, (∃ e30 : Int, ((r1_0_4.getD (x4).toNat []).getD (x5).toNat (ByteArray.empty, 0) = (e29, e30) ∧ (ref24_Out_l4 x4 x5 (decide ((r62.getD (x7).toNat ByteArray.empty) = e29)) (wi (x7 + 1)) r1_0_0 r1_0_1 r1_0_2 r1_0_3 r1_0_4 r62 z)))))))))))) ∨ (¬ x7 < (r62.length : Int) ∧ ((x6 = true ∧ (ref24_Out_l3 x4 (wi (x5 + 1)) r1_0_0 r1_0_1 r1_0_2 r1_0_3 r1_0_4 r62 z)) ∨ (¬ x6 = true ∧ (0 ≤ x4 ∧ (x4 < (r1_0_4.length : Int) ∧ (0 ≤ x5 ∧ (x5 < ((r1_0_4.getD (x4).toNat []).length : Int) ∧ (∃ e37 : ByteArray, (∃ e38 : Int, ((r1_0_4.getD (x4).toNat []).getD (x5).toNat (ByteArray.empty, 0) = (e37, e38) ∧ ((r62.length + 1 + 192) * (16 + 1) ≤ 70368744177664 ∧ (∃ y40 : List T_string, y40 = r62 ++ [e37] ∧ (ref24_Out_l3 x4 (wi (x5 + 1)) r1_0_0 r1_0_1 r1_0_2 r1_0_3 r1_0_4 y40 z))))))))))))))) : ref24_Out_l4 x4 x5 x6 x7 r1_0_0 r1_0_1 r1_0_2 r1_0_3 r1_0_4 r62 z := by
 intro n62 ln_62 j jb vs
 refine W.adv 1 ?_
 refine W.adv 5 ?_
 refine W.opS (OpIs.ln (n := n62) (m := r62.length) (by kernel_rfl) ln_62) ?_
 refine W.adv 3 ?_
 rcases H with ⟨h22, H⟩ | ⟨h22, H⟩
 ·refine W.cond true (w := (decide (x7 < (r62.length : Int)))) (by kernel_rfl) (decide_eq_true h22) ?_
  refine W.adv 7 ?_
  rcases H with ⟨h23, H⟩ | ⟨h23, H⟩
  ·refine W.guard false (w := (x6 == false)) (by kernel_rfl) (congrArg (fun b => b == false) h23) ?_
   refine W.guard false (w := (x6 == false)) (by kernel_rfl) (congrArg (fun b => b == false) h23) ?_
   refine W.guard false (w := (x6 == false)) (by kernel_rfl) (congrArg (fun b => b == false) h23) ?_
   refine W.guard false (w := (x6 == false)) (by kernel_rfl) (congrArg (fun b => b == false) h23) ?_
   refine W.guard false (w := (x6 == false)) (by kernel_rfl) (congrArg (fun b => b == false) h23) ?_
   refine W.guard false (w := (x6 == false)) (by kernel_rfl) (congrArg (fun b => b == false) h23) ?_
   refine W.guard false (w := (x6 == false)) (by kernel_rfl) (congrArg (fun b => b == false) h23) ?_
   refine W.guard false (w := (x6 == false)) (by kernel_rfl) (congrArg (fun b => b == false) h23) ?_
   refine W.guard false (w := (x6 == false)) (by kernel_rfl) (congrArg (fun b => b == false) h23) ?_
   refine W.guard false (w := (x6 == false)) (by kernel_rfl) (congrArg (fun b => b == false) h23) ?_
   refine W.guard false (w := (x6 == false)) (by kernel_rfl) (congrArg (fun b => b == false) h23) ?_
   refine W.guard false (w := (x6 == false)) (by kernel_rfl) (congrArg (fun b => b == false) h23) ?_
   refine W.guard false (w := (x6 == false)) (by kernel_rfl) (congrArg (fun b => b == false) h23) ?_
   refine W.guard false (w := (x6 == false)) (by kernel_rfl) (congrArg (fun b => b == false) h23) ?_
   refine W.opS (OpIs.pk true (t := x6) (x := (.bool true)) (y := (.tuple [])) (by kernel_rfl) h23) ?_
   refine W.adv 10 ?_
   exact W.to_loop (P := ref24_Out_l4_s x4 x5 true (wi (x7 + 1)) r1_0_0 r1_0_1 r1_0_2 r1_0_3 r1_0_4 r62 n62) (H _ ln_62) (by kernel_rfl)
  ·refine W.guard true (w := (x6 == false)) (by kernel_rfl) (congrArg (fun b => b == false) (bfalse h23)) ?_
   refine W.adv 1 ?_
   refine W.guard true (w := (x6 == false)) (by kernel_rfl) (congrArg (fun b => b == false) (bfalse h23)) ?_
   refine W.adv 1 ?_
   refine W.guard true (w := (x6 == false)) (by kernel_rfl) (congrArg (fun b => b == false) (bfalse h23)) ?_
   obtain ⟨h24, H⟩ := H
   refine W.opS (OpIs.ixR (k' := .i64) (b := 62) (v := ((vs 62) + 1)) (sz := 1) (len := n62) (i := x7) (by kernel_rfl) h24 (by rw [ln_62]; exact h22)) ?_
   refine W.guard true (w := (x6 == false)) (by kernel_rfl) (congrArg (fun b => b == false) (bfalse h23)) ?_
   refine W.opS (OpIs.ldE (enc := E_string) (b := 62) (v := ((vs 62) + 1)) (i := (x7).toNat) (off := 0) (w := ((vs 62) + 1)) (n := 1) (s := 1) (fz := false) (a := false) (L := r62) (d0 := ByteArray.empty) (x := (r62.getD (x7).toNat ByteArray.empty)) (r := (.str (r62.getD (x7).toNat ByteArray.empty))) (by kernel_rfl) rfl (by omega) rfl (by kernel_rfl)) ?_
   refine W.guard true (w := (x6 == false)) (by kernel_rfl) (congrArg (fun b => b == false) (bfalse h23)) ?_
   refine W.adv 1 ?_
   refine W.guard true (w := (x6 == false)) (by kernel_rfl) (congrArg (fun b => b == false) (bfalse h23)) ?_
   refine W.adv 1 ?_
   refine W.guard true (w := (x6 == false)) (by kernel_rfl) (congrArg (fun b => b == false) (bfalse h23)) ?_
   refine W.adv 1 ?_
   refine W.guard true (w := (x6 == false)) (by kernel_rfl) (congrArg (fun b => b == false) (bfalse h23)) ?_
   obtain ⟨h25, h26, H⟩ := H
   refine W.opS (OpIs.ixE (enc := E71) (n := 1) (k' := .i64) (L := r1_0_4) (i := x4) (d0 := []) (x := (r1_0_4.getD (x4).toNat [])) (by kernel_rfl) h25 h26 rfl) ?_
   refine W.guard true (w := (x6 == false)) (by kernel_rfl) (congrArg (fun b => b == false) (bfalse h23)) ?_
   refine W.adv 1 ?_
   refine W.guard true (w := (x6 == false)) (by kernel_rfl) (congrArg (fun b => b == false) (bfalse h23)) ?_
   refine W.adv 1 ?_
   refine W.guard true (w := (x6 == false)) (by kernel_rfl) (congrArg (fun b => b == false) (bfalse h23)) ?_
   obtain ⟨h27, h28, H⟩ := H
   obtain ⟨e29, e30, he31, H⟩ := H
   refine W.opS (OpIs.ixE (enc := E_api_Hop) (n := 2) (k' := .i64) (L := (r1_0_4.getD (x4).toNat [])) (i := x5) (d0 := (ByteArray.empty, 0)) (x := (e29, e30)) (by kernel_rfl) h27 h28 he31) ?_
   refine W.guard true (w := (x6 == false)) (by kernel_rfl) (congrArg (fun b => b == false) (bfalse h23)) ?_
   refine W.adv 1 ?_
   refine W.guard true (w := (x6 == false)) (by kernel_rfl) (congrArg (fun b => b == false) (bfalse h23)) ?_
   refine W.adv 1 ?_
   refine W.guard true (w := (x6 == false)) (by kernel_rfl) (congrArg (fun b => b == false) (bfalse h23)) ?_
   refine W.adv 1 ?_
   refine W.opS (OpIs.pk false (t := x6) (x := (.bool true)) (y := (.bool (decide ((r62.getD (x7).toNat ByteArray.empty) = e29)))) (by kernel_rfl) (bfalse h23)) ?_
   refine W.adv 10 ?_
   exact W.to_loop (P := ref24_Out_l4_s x4 x5 (decide ((r62.getD (x7).toNat ByteArray.empty) = e29)) (wi (x7 + 1)) r1_0_0 r1_0_1 r1_0_2 r1_0_3 r1_0_4 r62 n62) (H _ ln_62) (by kernel_rfl)
 ·refine W.cond false (w := (decide (x7 < (r62.length : Int)))) (by kernel_rfl) (decide_eq_false h22) ?_
  refine W.adv 11 ?_
  rcases H with ⟨h32, H⟩ | ⟨h32, H⟩
  ·refine W.cond false (w := (!x6)) (by kernel_rfl) (congrArg (fun b => !b) h32) ?_
   refine W.adv 9 ?_
   exact W.to_loop (P := ref24_Out_l3_s x4 (wi (x5 + 1)) r1_0_0 r1_0_1 r1_0_2 r1_0_3 r1_0_4 r62 n62) (H _ ln_62) (by kernel_rfl)
  ·refine W.cond true (w := (!x6)) (by kernel_rfl) (congrArg (fun b => !b) (bfalse h32)) ?_
   refine W.adv 5 ?_
   obtain ⟨h33, h34, H⟩ := H
   refine W.opS (OpIs.ixE (enc := E71) (n := 1) (k' := .i64) (L := r1_0_4) (i := x4) (d0 := []) (x := (r1_0_4.getD (x4).toNat [])) (by kernel_rfl) h33 h34 rfl) ?_
   refine W.adv 2 ?_
   obtain ⟨h35, h36, H⟩ := H
   obtain ⟨e37, e38, he39, H⟩ := H
   refine W.opS (OpIs.ixE (enc := E_api_Hop) (n := 2) (k' := .i64) (L := (r1_0_4.getD (x4).toNat [])) (i := x5) (d0 := (ByteArray.empty, 0)) (x := (e37, e38)) (by kernel_rfl) h35 h36 he39) ?_
   refine W.adv 3 ?_
   obtain ⟨h43, H⟩ := H
   obtain ⟨y40, hy41, H⟩ := H
   have ln42 : (r62.length + 1) = y40.length := by rw [hy41, List.length_append] <;> rfl
   refine W.opK (OpIs.apERow (enc := E_string) (y := (.lit (.list 1 [.str e37]))) (n := 16) (d := 62) (dv := ((vs 62) + 1)) (b := 62) (v := ((vs 62) + 1)) (w := ((vs 62) + 1)) (len := n62) (m := 1) (xs := r62) (ys := [e37]) (by kernel_rfl) (by kernel_rfl) hy41 rfl ln_62 h43) ?_
   refine W.adv 10 ?_
   exact W.to_loop (P := ref24_Out_l3_s x4 (wi (x5 + 1)) r1_0_0 r1_0_1 r1_0_2 r1_0_3 r1_0_4 y40 (r62.length + 1)) (H _ ln42) (by kernel_rfl)
theorem ref24_Out_l5_go {x4 : Int} {r1_0_0 : ByteArray} {r1_0_1 : Int} {r1_0_2 : Int} {r1_0_3 : Bool} {r1_0_4 : List T71} {r62 : List T_string} {z : List T_string} (H : ((x4 < (r1_0_4.length : Int) ∧ (ref24_Out_l3 x4 0 r1_0_0 r1_0_1 r1_0_2 r1_0_3 r1_0_4 r62 z)) ∨ (¬ x4 < (r1_0_4.length : Int) ∧ (z = r62)))) : ref24_Out_l5 x4 r1_0_0 r1_0_1 r1_0_2 r1_0_3 r1_0_4 r62 z := by
 intro n62 ln_62 j jb vs
 refine W.adv 1 ?_
 refine W.adv 6 ?_
 refine W.opS (OpIs.ln (n := (r1_0_4.map E71).length) (m := r1_0_4.length) (by kernel_rfl) (by rw [List.length_map])) ?_
 refine W.adv 3 ?_
 rcases H with ⟨h44, H⟩ | ⟨h44, H⟩
 ·refine W.cond true (w := (decide (x4 < (r1_0_4.length : Int)))) (by kernel_rfl) (decide_eq_true h44) ?_
  refine W.adv 10 ?_
  exact W.to_loop (P := ref24_Out_l3_s x4 0 r1_0_0 r1_0_1 r1_0_2 r1_0_3 r1_0_4 r62 n62) (H _ ln_62) (by kernel_rfl)
 ·refine W.cond false (w := (decide (x4 < (r1_0_4.length : Int)))) (by kernel_rfl) (decide_eq_false h44) ?_
  refine W.adv 12 ?_
  exact W.fin (x := .ret) (by kernel_rfl) (Ans.of (d := (.sref 62 ((vs 62) + 1) 1 0 n62)) (d' := (.list 1 (r62.map E_string))) (e' := (.list 1 (r62.map E_string))) (by kernel_rfl) ((congrArg (fun h => reify h DEPTH (.sref 62 ((vs 62) + 1) 1 0 n62)) (tidy_ver (b := 62) (v := (vs 62)) (fz := false) (y := .rows 1 (r62.map E_string)) (by kernel_rfl))).trans (rf_fullE (enc := E_string) E_string_t (b := 62) (v := ((vs 62) + 1)) (w := ((vs 62) + 1)) (fz := false) (xs := r62) (by kernel_rfl) rfl ln_62)) (by kernel_rfl) (by rw [H]))
theorem ref24_Out_go {a0_0 : ByteArray} {a0_1 : Int} {a0_2 : Int} {a0_3 : Bool} {a0_4 : List T71} {z : List T_string} (H : (ref24_Out_l0 0 a0_0 a0_1 a0_2 a0_3 a0_4 z)) : ref24_Out_R a0_0 a0_1 a0_2 a0_3 a0_4 z := by
 refine W.ic (zs := [(.agg [.str a0_0, .int .u32 a0_1, .int .i64 a0_2, .bool a0_3, (.list 1 (a0_4.map E71))])]) Tryz.func17 (by kernel_rfl) (by kernel_rfl) (by kernel_rfl) (by kernel_rfl) ?_
 refine W.adv 19 ?_
 exact W.to_loop (P := ref24_Out_l0_s 0 a0_0 a0_1 a0_2 a0_3 a0_4) (H ) (by kernel_rfl)
noncomputable def ref30_Group_l0_s (x1 : List T_string) (x2 : Int) (x7 : Int) (r3_0_0 : ByteArray) (r3_0_1 : Int) (r3_0_2 : Int) (r3_0_3 : Bool) (r3_0_4 : List T71) (j : Nat → D) (jb : Nat → Blk) (vs : Nat → Nat) : Cf := cfAt Tryz.f18 [1, 0, 1, 0] ⟨[j 0, (.list 1 (x1.map E_string)), .int .u64 x2, .pref 3 1 0 0, j 4, j 5, j 6, .int .i64 x7, j 8, j 9, j 10, j 11, j 12, j 13, j 14, j 15, j 16, j 17, j 18, j 19, j 20, j 21, j 22, j 23, j 24, j 25, j 26, j 27, j 28, j 29, j 30, j 31, j 32, j 33, j 34, j 35, j 36, j 37, j 38], [jb 0, jb 1, jb 2, ⟨1, false, .rows 5 [(.agg [.str r3_0_0, .int .u32 r3_0_1, .int .i64 r3_0_2, .bool r3_0_3, (.list 1 (r3_0_4.map E71))])]⟩, jb 4, jb 5, jb 6, jb 7, jb 8, jb 9, jb 10, jb 11, jb 12, jb 13, jb 14, jb 15, jb 16, jb 17, jb 18, jb 19, jb 20, jb 21, jb 22, jb 23, jb 24, jb 25, jb 26, jb 27, jb 28, jb 29, jb 30, jb 31, jb 32, jb 33, jb 34, jb 35, jb 36, jb 37, jb 38]⟩
def ref30_Group_l0 (x1 : List T_string) (x2 : Int) (x7 : Int) (r3_0_0 : ByteArray) (r3_0_1 : Int) (r3_0_2 : Int) (r3_0_3 : Bool) (r3_0_4 : List T71) (z : Int) : Prop := ∀ j jb vs, W C F 18 0 (ref30_Group_l0_s x1 x2 x7 r3_0_0 r3_0_1 r3_0_2 r3_0_3 r3_0_4  j jb vs) (Ans C Tryz.f18 (.int .i64 z))
noncomputable def ref30_Group_l1_s (x1 : List T_string) (x2 : Int) (x7 : Int) (x8 : Int) (r3_0_0 : ByteArray) (r3_0_1 : Int) (r3_0_2 : Int) (r3_0_3 : Bool) (r3_0_4 : List T71) (j : Nat → D) (jb : Nat → Blk) (vs : Nat → Nat) : Cf := cfAt Tryz.f18 [1, 0, 1, 0, 0, 1, 0, 0, 1, 0] ⟨[j 0, (.list 1 (x1.map E_string)), .int .u64 x2, .pref 3 1 0 0, j 4, j 5, j 6, .int .i64 x7, .int .i64 x8, j 9, j 10, j 11, j 12, j 13, j 14, j 15, j 16, j 17, j 18, j 19, j 20, j 21, j 22, j 23, j 24, j 25, j 26, j 27, j 28, j 29, j 30, j 31, j 32, j 33, j 34, j 35, j 36, j 37, j 38], [jb 0, jb 1, jb 2, ⟨1, false, .rows 5 [(.agg [.str r3_0_0, .int .u32 r3_0_1, .int .i64 r3_0_2, .bool r3_0_3, (.list 1 (r3_0_4.map E71))])]⟩, jb 4, jb 5, jb 6, jb 7, jb 8, jb 9, jb 10, jb 11, jb 12, jb 13, jb 14, jb 15, jb 16, jb 17, jb 18, jb 19, jb 20, jb 21, jb 22, jb 23, jb 24, jb 25, jb 26, jb 27, jb 28, jb 29, jb 30, jb 31, jb 32, jb 33, jb 34, jb 35, jb 36, jb 37, jb 38]⟩
def ref30_Group_l1 (x1 : List T_string) (x2 : Int) (x7 : Int) (x8 : Int) (r3_0_0 : ByteArray) (r3_0_1 : Int) (r3_0_2 : Int) (r3_0_3 : Bool) (r3_0_4 : List T71) (z : Int) : Prop := ∀ j jb vs, W C F 18 0 (ref30_Group_l1_s x1 x2 x7 x8 r3_0_0 r3_0_1 r3_0_2 r3_0_3 r3_0_4  j jb vs) (Ans C Tryz.f18 (.int .i64 z))
theorem ref30_Group_l0_go {x1 : List T_string} {x2 : Int} {x7 : Int} {r3_0_0 : ByteArray} {r3_0_1 : Int} {r3_0_2 : Int} {r3_0_3 : Bool} {r3_0_4 : List T71} {z : Int} (H : ((x7 < (r3_0_4.length : Int) ∧ (ref30_Group_l1 x1 x2 x7 0 r3_0_0 r3_0_1 r3_0_2 r3_0_3 r3_0_4 z)) ∨ (¬ x7 < (r3_0_4.length : Int) ∧ (z = (-1))))) : ref30_Group_l0 x1 x2 x7 r3_0_0 r3_0_1 r3_0_2 r3_0_3 r3_0_4 z := by
 intro j jb vs
 refine W.adv 1 ?_
 refine W.adv 6 ?_
 refine W.opS (OpIs.ln (n := (r3_0_4.map E71).length) (m := r3_0_4.length) (by kernel_rfl) (by rw [List.length_map])) ?_
 refine W.adv 3 ?_
 rcases H with ⟨h1, H⟩ | ⟨h1, H⟩
 ·refine W.cond true (w := (decide (x7 < (r3_0_4.length : Int)))) (by kernel_rfl) (decide_eq_true h1) ?_
  refine W.adv 10 ?_
  exact W.to_loop (P := ref30_Group_l1_s x1 x2 x7 0 r3_0_0 r3_0_1 r3_0_2 r3_0_3 r3_0_4) (H ) (by kernel_rfl)
 ·refine W.cond false (w := (decide (x7 < (r3_0_4.length : Int)))) (by kernel_rfl) (decide_eq_false h1) ?_
  refine W.adv 11 ?_
  exact W.fin (x := .ret) (by kernel_rfl) (Ans.of (d := (.int .i64 (-1))) (d' := (.int .i64 (-1))) (e' := (.int .i64 (-1))) (by kernel_rfl) (by kernel_rfl) (by kernel_rfl) (by rw [H]))
theorem ref30_Group_l1_go {x1 : List T_string} {x2 : Int} {x7 : Int} {x8 : Int} {r3_0_0 : ByteArray} {r3_0_1 : Int} {r3_0_2 : Int} {r3_0_3 : Bool} {r3_0_4 : List T71} {z : Int} (H : (0 ≤ x7 ∧ (x7 < (r3_0_4.length : Int) ∧ ((x8 < ((r3_0_4.getD (x7).toNat []).length : Int) ∧ (0 ≤ x8 ∧ (∃ e6 : ByteArray, (∃ e7 : Int, ((r3_0_4.getD (x7).toNat []).getD (x8).toNat (ByteArray.empty, 0) = (e6, e7) ∧ (∃ c9 : Bool, (ref30_Lives_R x1 e6 x2 c9 ∧ ((c9 = true ∧ (z = x7)) ∨ (¬ c9 = true ∧ (ref30_Group_l1 x1 x2 x7 (wi (x8 + 1)) r3_0_0 r3_0_1 r3_0_2 r3_0_3 r3_0_4 z)))))))))) ∨ (¬ x8 < ((r3_0_4.getD (x7).toNat []).length : Int) ∧ (ref30_Group_l0 x1 x2 (wi (x7 + 1)) r3_0_0 r3_0_1 r3_0_2 r3_0_3 r3_0_4 z)))))) : ref30_Group_l1 x1 x2 x7 x8 r3_0_0 r3_0_1 r3_0_2 r3_0_3 r3_0_4 z := by
 intro j jb vs
 refine W.adv 1 ?_
 refine W.adv 7 ?_
 obtain ⟨h2, h3, H⟩ := H
 refine W.opS (OpIs.ixE (enc := E71) (n := 1) (k' := .i64) (L := r3_0_4) (i := x7) (d0 := []) (x := (r3_0_4.getD (x7).toNat [])) (by kernel_rfl) h2 h3 rfl) ?_
 refine W.adv 1 ?_
 refine W.opS (OpIs.ln (n := ((r3_0_4.getD (x7).toNat []).map E_api_Hop).length) (m := (r3_0_4.getD (x7).toNat []).length) (by kernel_rfl) (by rw [List.length_map])) ?_
 refine W.adv 3 ?_
 rcases H with ⟨h4, H⟩ | ⟨h4, H⟩
 ·refine W.cond true (w := (decide (x8 < ((r3_0_4.getD (x7).toNat []).length : Int)))) (by kernel_rfl) (decide_eq_true h4) ?_
  refine W.adv 10 ?_
  refine W.opS (OpIs.ixE (enc := E71) (n := 1) (k' := .i64) (L := r3_0_4) (i := x7) (d0 := []) (x := (r3_0_4.getD (x7).toNat [])) (by kernel_rfl) h2 h3 rfl) ?_
  refine W.adv 2 ?_
  obtain ⟨h5, H⟩ := H
  obtain ⟨e6, e7, he8, H⟩ := H
  refine W.opS (OpIs.ixE (enc := E_api_Hop) (n := 2) (k' := .i64) (L := (r3_0_4.getD (x7).toNat [])) (i := x8) (d0 := (ByteArray.empty, 0)) (x := (e6, e7)) (by kernel_rfl) h5 h4 he8) ?_
  refine W.adv 3 ?_
  obtain ⟨c9, hc10, H⟩ := H
  refine W.callR (g := 52) (ds := [(.list 1 (x1.map E_string)), .str e6, .int .u64 x2]) (es := [(.list 1 (x1.map E_string)), .str e6, .int .u64 x2]) (r := (.bool c9)) (by kernel_rfl) (by kernel_rfl) (Ic.args hc10 (by kernel_rfl)) (by kernel_rfl) ?_
  refine W.adv 2 ?_
  rcases H with ⟨h11, H⟩ | ⟨h11, H⟩
  ·refine W.cond true (w := c9) (by kernel_rfl) h11 ?_
   refine W.adv 16 ?_
   exact W.fin (x := .ret) (by kernel_rfl) (Ans.of (d := (.int .i64 x7)) (d' := (.int .i64 x7)) (e' := (.int .i64 x7)) (by kernel_rfl) (by kernel_rfl) (by kernel_rfl) (by rw [H]))
  ·refine W.cond false (w := c9) (by kernel_rfl) (bfalse h11) ?_
   refine W.adv 9 ?_
   exact W.to_loop (P := ref30_Group_l1_s x1 x2 x7 (wi (x8 + 1)) r3_0_0 r3_0_1 r3_0_2 r3_0_3 r3_0_4) (H ) (by kernel_rfl)
 ·refine W.cond false (w := (decide (x8 < ((r3_0_4.getD (x7).toNat []).length : Int)))) (by kernel_rfl) (decide_eq_false h4) ?_
  refine W.adv 12 ?_
  exact W.to_loop (P := ref30_Group_l0_s x1 x2 (wi (x7 + 1)) r3_0_0 r3_0_1 r3_0_2 r3_0_3 r3_0_4) (H ) (by kernel_rfl)
theorem ref30_Group_go {a0_0 : ByteArray} {a0_1 : Int} {a0_2 : Int} {a0_3 : Bool} {a0_4 : List T71} {a1 : List T_string} {a2 : Int} {z : Int} (H : (ref30_Group_l0 a1 a2 0 a0_0 a0_1 a0_2 a0_3 a0_4 z)) : ref30_Group_R a0_0 a0_1 a0_2 a0_3 a0_4 a1 a2 z := by
 refine W.ic (zs := [(.agg [.str a0_0, .int .u32 a0_1, .int .i64 a0_2, .bool a0_3, (.list 1 (a0_4.map E71))]), (.list 1 (a1.map E_string)), .int .u64 a2]) Tryz.func18 (by kernel_rfl) (by kernel_rfl) (by kernel_rfl) (by kernel_rfl) ?_
 refine W.adv 13 ?_
 exact W.to_loop (P := ref30_Group_l0_s a1 a2 0 a0_0 a0_1 a0_2 a0_3 a0_4) (H ) (by kernel_rfl)
theorem _law30_names__is_go {a0_0 : List T_string} {a0_1 : Int} {a1 : ByteArray} {z : Bool} (H : (∃ c1 : Bool, (ref30_Lives_R a0_0 a1 a0_1 c1 ∧ (z = c1)))) : _law30_names__is_R a0_0 a0_1 a1 z := by
 refine W.ic (zs := [(.agg [(.list 1 (a0_0.map E_string)), .int .u64 a0_1]), .str a1]) Tryz.func20 (by kernel_rfl) (by kernel_rfl) (by kernel_rfl) (by kernel_rfl) ?_
 refine W.adv 13 ?_
 obtain ⟨c1, hc2, H⟩ := H
 refine W.callR (g := 52) (ds := [(.list 1 (a0_0.map E_string)), .str a1, .int .u64 a0_1]) (es := [(.list 1 (a0_0.map E_string)), .str a1, .int .u64 a0_1]) (r := (.bool c1)) (by kernel_rfl) (by kernel_rfl) (Ic.args hc2 (by kernel_rfl)) (by kernel_rfl) ?_
 refine W.adv 4 ?_
 exact W.fin (x := .ret) (by kernel_rfl) (Ans.of (d := (.bool c1)) (d' := (.bool c1)) (e' := (.bool c1)) (by kernel_rfl) (by kernel_rfl) (by kernel_rfl) (by rw [H]))
noncomputable def ref30_Lives_l0_s (x0 : List T_string) (x1 : ByteArray) (x2 : Int) (x7 : Int) (j : Nat → D) (jb : Nat → Blk) (vs : Nat → Nat) : Cf := cfAt Tryz.f52 [1, 0, 1, 0] ⟨[(.list 1 (x0.map E_string)), .str x1, .int .u64 x2, j 3, j 4, j 5, j 6, .int .i64 x7, j 8, j 9, j 10, j 11, j 12, j 13, j 14, j 15, j 16, j 17, j 18, j 19, j 20, j 21, j 22, j 23, j 24, j 25, j 26], [jb 0, jb 1, jb 2, jb 3, jb 4, jb 5, jb 6, jb 7, jb 8, jb 9, jb 10, jb 11, jb 12, jb 13, jb 14, jb 15, jb 16, jb 17, jb 18, jb 19, jb 20, jb 21, jb 22, jb 23, jb 24, jb 25, jb 26]⟩
def ref30_Lives_l0 (x0 : List T_string) (x1 : ByteArray) (x2 : Int) (x7 : Int) (z : Bool) : Prop := ∀ j jb vs, W C F 52 0 (ref30_Lives_l0_s x0 x1 x2 x7  j jb vs) (Ans C Tryz.f52 (.bool z))
theorem ref30_Lives_l0_go {x0 : List T_string} {x1 : ByteArray} {x2 : Int} {x7 : Int} {z : Bool} (H : ((x7 < (x0.length : Int) ∧ (0 ≤ x7 ∧ (((x0.getD (x7).toNat ByteArray.empty) = x1 ∧ (((x2.tmod 2) = 1 ∧ (z = true)) ∨ (¬ (x2.tmod 2) = 1 ∧ (ref30_Lives_l0 x0 x1 (wu (x2.tdiv 2)) (wi (x7 + 1)) z)))) ∨ (¬ (x0.getD (x7).toNat ByteArray.empty) = x1 ∧ (ref30_Lives_l0 x0 x1 (wu (x2.tdiv 2)) (wi (x7 + 1)) z))))) ∨ (¬ x7 < (x0.length : Int) ∧ (z = false)))) : ref30_Lives_l0 x0 x1 x2 x7 z := by
 intro j jb vs
 refine W.adv 1 ?_
 refine W.adv 5 ?_
 refine W.opS (OpIs.ln (n := (x0.map E_string).length) (m := x0.length) (by kernel_rfl) (by rw [List.length_map])) ?_
 refine W.adv 3 ?_
 rcases H with ⟨h1, H⟩ | ⟨h1, H⟩
 ·refine W.cond true (w := (decide (x7 < (x0.length : Int)))) (by kernel_rfl) (decide_eq_true h1) ?_
  refine W.adv 9 ?_
  obtain ⟨h2, H⟩ := H
  refine W.opS (OpIs.ixE (enc := E_string) (n := 1) (k' := .i64) (L := x0) (i := x7) (d0 := ByteArray.empty) (x := (x0.getD (x7).toNat ByteArray.empty)) (by kernel_rfl) h2 h1 rfl) ?_
  refine W.adv 4 ?_
  rcases H with ⟨h3, H⟩ | ⟨h3, H⟩
  ·refine W.guard true (w := ((decide ((x0.getD (x7).toNat ByteArray.empty) = x1)) == true)) (by kernel_rfl) (congrArg (fun b => b == true) (decide_eq_true h3)) ?_
   refine W.adv 1 ?_
   refine W.guard true (w := ((decide ((x0.getD (x7).toNat ByteArray.empty) = x1)) == true)) (by kernel_rfl) (congrArg (fun b => b == true) (decide_eq_true h3)) ?_
   refine W.adv 1 ?_
   refine W.guard true (w := ((decide ((x0.getD (x7).toNat ByteArray.empty) = x1)) == true)) (by kernel_rfl) (congrArg (fun b => b == true) (decide_eq_true h3)) ?_
   refine W.adv 1 ?_
   refine W.opS (OpIs.pk true (t := (decide ((x0.getD (x7).toNat ByteArray.empty) = x1))) (x := (.bool (decide ((x2.tmod 2) = 1)))) (y := (.bool false)) (by kernel_rfl) (decide_eq_true h3)) ?_
   refine W.adv 2 ?_
   rcases H with ⟨h4, H⟩ | ⟨h4, H⟩
   ·refine W.cond true (w := (decide ((x2.tmod 2) = 1))) (by kernel_rfl) (decide_eq_true h4) ?_
    refine W.adv 12 ?_
    exact W.fin (x := .ret) (by kernel_rfl) (Ans.of (d := (.bool true)) (d' := (.bool true)) (e' := (.bool true)) (by kernel_rfl) (by kernel_rfl) (by kernel_rfl) (by rw [H]))
   ·refine W.cond false (w := (decide ((x2.tmod 2) = 1))) (by kernel_rfl) (decide_eq_false h4) ?_
    refine W.adv 15 ?_
    exact W.to_loop (P := ref30_Lives_l0_s x0 x1 (wu (x2.tdiv 2)) (wi (x7 + 1))) (H ) (by kernel_rfl)
  ·refine W.guard false (w := ((decide ((x0.getD (x7).toNat ByteArray.empty) = x1)) == true)) (by kernel_rfl) (congrArg (fun b => b == true) (decide_eq_false h3)) ?_
   refine W.guard false (w := ((decide ((x0.getD (x7).toNat ByteArray.empty) = x1)) == true)) (by kernel_rfl) (congrArg (fun b => b == true) (decide_eq_false h3)) ?_
   refine W.guard false (w := ((decide ((x0.getD (x7).toNat ByteArray.empty) = x1)) == true)) (by kernel_rfl) (congrArg (fun b => b == true) (decide_eq_false h3)) ?_
   refine W.opS (OpIs.pk false (t := (decide ((x0.getD (x7).toNat ByteArray.empty) = x1))) (x := (.tuple [])) (y := (.bool false)) (by kernel_rfl) (decide_eq_false h3)) ?_
   refine W.adv 18 ?_
   exact W.to_loop (P := ref30_Lives_l0_s x0 x1 (wu (x2.tdiv 2)) (wi (x7 + 1))) (H ) (by kernel_rfl)
 ·refine W.cond false (w := (decide (x7 < (x0.length : Int)))) (by kernel_rfl) (decide_eq_false h1) ?_
  refine W.adv 11 ?_
  exact W.fin (x := .ret) (by kernel_rfl) (Ans.of (d := (.bool false)) (d' := (.bool false)) (e' := (.bool false)) (by kernel_rfl) (by kernel_rfl) (by kernel_rfl) (by rw [H]))
theorem ref30_Lives_go {a0 : List T_string} {a1 : ByteArray} {a2 : Int} {z : Bool} (H : (ref30_Lives_l0 a0 a1 a2 0 z)) : ref30_Lives_R a0 a1 a2 z := by
 refine W.ic (zs := [(.list 1 (a0.map E_string)), .str a1, .int .u64 a2]) Tryz.func52 (by kernel_rfl) (by kernel_rfl) (by kernel_rfl) (by kernel_rfl) ?_
 refine W.adv 12 ?_
 exact W.to_loop (P := ref30_Lives_l0_s a0 a1 a2 0) (H ) (by kernel_rfl)
theorem ref22_short_go {a0 : ByteArray} {z : ByteArray} (H : (0 ≤ (mn (a0.size : Int) 20) ∧ ((mn (a0.size : Int) 20) ≤ (a0.size : Int) ∧ (z = (a0.extract 0 (mn (a0.size : Int) 20).toNat))))) : ref22_short_R a0 z := by
 refine W.ic (zs := [.str a0]) Tryz.func58 (by kernel_rfl) (by kernel_rfl) (by kernel_rfl) (by kernel_rfl) ?_
 refine W.adv 11 ?_
 obtain ⟨h1, h2, H⟩ := H
 refine W.opS (OpIs.slT_hi (k' := .i64) (s := a0) (i := (mn (a0.size : Int) 20)) (by kernel_rfl) h1 h2) ?_
 refine W.adv 4 ?_
 exact W.fin (x := .ret) (by kernel_rfl) (Ans.of (d := (.str (a0.extract 0 (mn (a0.size : Int) 20).toNat))) (d' := (.str (a0.extract 0 (mn (a0.size : Int) 20).toNat))) (e' := (.str (a0.extract 0 (mn (a0.size : Int) 20).toNat))) (by kernel_rfl) (by kernel_rfl) (by kernel_rfl) (by rw [H]))
noncomputable def step_Shares_v0_l0_s (x1_f0_0 : List T_string) (x1_f0_1 : Int) (x22 : List T_api_Hop) (x23 : Int) (x24 : Int) (j : Nat → D) (jb : Nat → Blk) (vs : Nat → Nat) : Cf := cfAt Tryz.f19 [1, 1, 1, 1, 1, 0, 1, 0] ⟨[j 0, (.fn 20 [(.agg [(.list 1 (x1_f0_0.map E_string)), .int .u64 x1_f0_1])] []), j 2, j 3, j 4, j 5, j 6, .nilS, .nilS, j 9, j 10, j 11, j 12, j 13, j 14, j 15, j 16, j 17, j 18, j 19, j 20, j 21, (.list 2 (x22.map E_api_Hop)), .int .i64 x23, .int .i64 x24, j 25, j 26, j 27, j 28, j 29, j 30, j 31, j 32, j 33, j 34, j 35, j 36, j 37, j 38, j 39, j 40, j 41, j 42, j 43, j 44, j 45, j 46, j 47, j 48, j 49, j 50, j 51, j 52, j 53, j 54], [jb 0, jb 1, jb 2, jb 3, jb 4, jb 5, jb 6, jb 7, jb 8, jb 9, jb 10, jb 11, jb 12, jb 13, jb 14, jb 15, jb 16, jb 17, jb 18, jb 19, jb 20, jb 21, jb 22, jb 23, jb 24, jb 25, jb 26, jb 27, jb 28, jb 29, jb 30, jb 31, jb 32, jb 33, jb 34, jb 35, jb 36, jb 37, jb 38, jb 39, jb 40, jb 41, jb 42, jb 43, jb 44, jb 45, jb 46, jb 47, jb 48, jb 49, jb 50, jb 51, jb 52, jb 53, jb 54]⟩
def step_Shares_v0_l0 (x1_f0_0 : List T_string) (x1_f0_1 : Int) (x22 : List T_api_Hop) (x23 : Int) (x24 : Int) (zt0 : List T_api_Hop) (zt1 : List T_api_Rat) : Prop := ∀ j jb vs, W C F 19 0 (step_Shares_v0_l0_s x1_f0_0 x1_f0_1 x22 x23 x24  j jb vs) (Ans C Tryz.f19 (.tuple [(.list 2 (zt0.map E_api_Hop)), (.list 3 (zt1.map E_api_Rat))]))
noncomputable def step_Shares_v0_l1_s (x1_f0_0 : List T_string) (x1_f0_1 : Int) (x22 : List T_api_Hop) (x23 : Int) (x24 : Int) (r39 : List T_api_Hop) (r44 : List Int) (n39 : Nat) (n44 : Nat) (j : Nat → D) (jb : Nat → Blk) (vs : Nat → Nat) : Cf := cfAt Tryz.f19 [1, 1, 1, 1, 1, 0, 1, 0] ⟨[j 0, (.fn 20 [(.agg [(.list 1 (x1_f0_0.map E_string)), .int .u64 x1_f0_1])] []), j 2, j 3, j 4, j 5, j 6, (.sref 39 ((vs 39) + 1) 2 0 n39), (.sref 44 ((vs 44) + 1) 1 0 n44), j 9, j 10, j 11, j 12, j 13, j 14, j 15, j 16, j 17, j 18, j 19, j 20, j 21, (.list 2 (x22.map E_api_Hop)), .int .i64 x23, .int .i64 x24, j 25, j 26, j 27, j 28, j 29, j 30, j 31, j 32, j 33, j 34, j 35, j 36, j 37, j 38, j 39, j 40, j 41, j 42, j 43, j 44, j 45, j 46, j 47, j 48, j 49, j 50, j 51, j 52, j 53, j 54], [jb 0, jb 1, jb 2, jb 3, jb 4, jb 5, jb 6, jb 7, jb 8, jb 9, jb 10, jb 11, jb 12, jb 13, jb 14, jb 15, jb 16, jb 17, jb 18, jb 19, jb 20, jb 21, jb 22, jb 23, jb 24, jb 25, jb 26, jb 27, jb 28, jb 29, jb 30, jb 31, jb 32, jb 33, jb 34, jb 35, jb 36, jb 37, jb 38, ⟨((vs 39) + 1), false, .rows 2 (r39.map E_api_Hop)⟩, jb 40, jb 41, jb 42, jb 43, ⟨((vs 44) + 1), false, .ints .i64 r44⟩, jb 45, jb 46, jb 47, jb 48, jb 49, jb 50, jb 51, jb 52, jb 53, jb 54]⟩
def step_Shares_v0_l1 (x1_f0_0 : List T_string) (x1_f0_1 : Int) (x22 : List T_api_Hop) (x23 : Int) (x24 : Int) (r39 : List T_api_Hop) (r44 : List Int) (zt0 : List T_api_Hop) (zt1 : List T_api_Rat) : Prop := ∀ n39, n39 = r39.length → ∀ n44, n44 = r44.length → ∀ j jb vs, W C F 19 0 (step_Shares_v0_l1_s x1_f0_0 x1_f0_1 x22 x23 x24 r39 r44 n39 n44 j jb vs) (Ans C Tryz.f19 (.tuple [(.list 2 (zt0.map E_api_Hop)), (.list 3 (zt1.map E_api_Rat))]))
theorem step_Shares_v0_l0_go {x1_f0_0 : List T_string} {x1_f0_1 : Int} {x22 : List T_api_Hop} {x23 : Int} {x24 : Int} {zt0 : List T_api_Hop} {zt1 : List T_api_Rat} (H : ((x24 < x23 ∧ (0 ≤ x24 ∧ (x24 < (x22.length : Int) ∧ (∃ e9 : ByteArray, (∃ e10 : Int, (x22.getD (x24).toNat (ByteArray.empty, 0) = (e9, e10) ∧ (∃ c12 : Bool, (_law30_names__is_R x1_f0_0 x1_f0_1 e9 c12 ∧ ((c12 = true ∧ ((e10 < 1 ∧ (zt0 = ([] : List T_api_Hop) ∧ zt1 = ([] : List T_api_Rat))) ∨ (¬ e10 < 1 ∧ ((1 + 192) * (24 + 1) ≤ 70368744177664 ∧ (∃ y16 : List T_api_Hop, y16 = [(e9, e10)] ∧ ((1 + 192) * (8 + 1) ≤ 70368744177664 ∧ (∃ y20, y20 = [e10] ∧ (step_Shares_v0_l1 x1_f0_0 x1_f0_1 x22 x23 (wi (x24 + 1)) y16 y20 zt0 zt1)))))))) ∨ (¬ c12 = true ∧ (step_Shares_v0_l0 x1_f0_0 x1_f0_1 x22 x23 (wi (x24 + 1)) zt0 zt1))))))))))) ∨ (¬ x24 < x23 ∧ (∃ c24t0 : List T_api_Rat, (∃ c24t1 : Int, (fold_Shares_R [] c24t0 c24t1 ∧ ((c24t1 = 0 ∧ (zt0 = ([] : List T_api_Hop) ∧ zt1 = c24t0)) ∨ (¬ c24t1 = 0 ∧ (zt0 = ([] : List T_api_Hop) ∧ zt1 = ([] : List T_api_Rat)))))))))) : step_Shares_v0_l0 x1_f0_0 x1_f0_1 x22 x23 x24 zt0 zt1 := by
 intro j jb vs
 refine W.adv 1 ?_
 refine W.adv 6 ?_
 rcases H with ⟨h6, H⟩ | ⟨h6, H⟩
 ·refine W.cond true (w := (decide (x24 < x23))) (by kernel_rfl) (decide_eq_true h6) ?_
  refine W.adv 6 ?_
  obtain ⟨h7, h8, H⟩ := H
  obtain ⟨e9, e10, he11, H⟩ := H
  refine W.opS (OpIs.ixE (enc := E_api_Hop) (n := 2) (k' := .i64) (L := x22) (i := x24) (d0 := (ByteArray.empty, 0)) (x := (e9, e10)) (by kernel_rfl) h7 h8 he11) ?_
  refine W.adv 2 ?_
  refine W.opH (OpIs.stV (b := 10) (v := ((jb 10).ver + 1)) (i := 0) (off := 0) (w := ((jb 10).ver + 1)) (n := 2) (s := 2) (xs := [(.agg [.str ⟨#[]⟩, .int .i64 0])]) (ys := [(.agg [.str e9, .int .i64 e10])]) (d := (.agg [.str ⟨#[]⟩, .int .i64 0])) (y := (.agg [.str e9, .int .i64 e10])) (by kernel_rfl) rfl (by kernel_rfl) (by kernel_rfl) (Nat.le_of_ble_eq_true (by kernel_rfl)) (by kernel_rfl) (by kernel_rfl)) ?_
  refine W.adv 7 ?_
  refine W.opS (OpIs.ldV (b := 10) (v := ((jb 10).ver + 1)) (i := 0) (off := 0) (w := ((jb 10).ver + 1)) (n := 2) (s := 1) (fz := false) (a := false) (xs := [(.agg [.str e9, .int .i64 e10])]) (r := (.str e9)) (by kernel_rfl) rfl (by kernel_rfl)) ?_
  obtain ⟨c12, hc13, H⟩ := H
  refine W.callR (g := 20) (ds := [(.agg [(.list 1 (x1_f0_0.map E_string)), .int .u64 x1_f0_1]), .str e9]) (es := [(.agg [(.list 1 (x1_f0_0.map E_string)), .int .u64 x1_f0_1]), .str e9]) (r := (.bool c12)) (by kernel_rfl) (by kernel_rfl) (Ic.args hc13 (by kernel_rfl)) (by kernel_rfl) ?_
  refine W.adv 3 ?_
  rcases H with ⟨h14, H⟩ | ⟨h14, H⟩
  ·refine W.cond false (w := (!c12)) (by kernel_rfl) (congrArg (fun b => !b) h14) ?_
   refine W.adv 6 ?_
   refine W.opS (OpIs.ldV (b := 10) (v := ((jb 10).ver + 1)) (i := 0) (off := 1) (w := ((jb 10).ver + 1)) (n := 2) (s := 1) (fz := false) (a := false) (xs := [(.agg [.str e9, .int .i64 e10])]) (r := (.int .i64 e10)) (by kernel_rfl) rfl (by kernel_rfl)) ?_
   refine W.adv 3 ?_
   rcases H with ⟨h15, H⟩ | ⟨h15, H⟩
   ·refine W.cond true (w := (decide (e10 < 1))) (by kernel_rfl) (decide_eq_true h15) ?_
    refine W.adv 13 ?_
    exact W.fin (x := .ret) (by kernel_rfl) (Ans.of (d := (.tuple [.nilS, .nilS])) (d' := (.tuple [.nilS, .nilS])) (e' := (.tuple [(.list 2 (([] : List T_api_Hop).map E_api_Hop)), (.list 3 (([] : List T_api_Rat).map E_api_Rat))])) (by kernel_rfl) (by kernel_rfl) (by kernel_rfl) (by rw [H.1, H.2]))
   ·refine W.cond false (w := (decide (e10 < 1))) (by kernel_rfl) (decide_eq_false h15) ?_
    refine W.adv 4 ?_
    refine W.opS (OpIs.ldV (b := 10) (v := ((jb 10).ver + 1)) (i := 0) (off := 0) (w := ((jb 10).ver + 1)) (n := 2) (s := 2) (fz := false) (a := true) (xs := [(.agg [.str e9, .int .i64 e10])]) (r := (.agg [.str e9, .int .i64 e10])) (by kernel_rfl) rfl (by kernel_rfl)) ?_
    refine W.adv 1 ?_
    obtain ⟨h19, H⟩ := H
    obtain ⟨y16, hy17, H⟩ := H
    have ln18 : 1 = y16.length := by rw [hy17] <;> rfl
    refine W.opH (OpIs.apENil (enc := E_api_Hop) (y := (.lit (.list 2 [(.agg [.str e9, .int .i64 e10])]))) (B := none) (n := 24) (d := 39) (v := (jb 39).ver) (m := 2) (ys := [(e9, e10)]) (by kernel_rfl) (by kernel_rfl) hy17 h19) ?_
    refine W.adv 2 ?_
    refine W.opS (OpIs.ldV (b := 10) (v := ((jb 10).ver + 1)) (i := 0) (off := 1) (w := ((jb 10).ver + 1)) (n := 2) (s := 1) (fz := false) (a := false) (xs := [(.agg [.str e9, .int .i64 e10])]) (r := (.int .i64 e10)) (by kernel_rfl) rfl (by kernel_rfl)) ?_
    refine W.adv 1 ?_
    obtain ⟨h23, H⟩ := H
    obtain ⟨y20, hy21, H⟩ := H
    have ln22 : 1 = y20.length := by rw [hy21] <;> rfl
    refine W.opH (OpIs.apNil (y := (.lit (.ints .i64 [e10]))) (B := none) (n := 8) (d := 44) (v := (jb 44).ver) (k := .i64) (ys := [e10]) (by kernel_rfl) (by kernel_rfl) hy21 h23) ?_
    refine W.adv 10 ?_
    exact W.to_loop (P := step_Shares_v0_l1_s x1_f0_0 x1_f0_1 x22 x23 (wi (x24 + 1)) y16 y20 1 1) (H _ ln18 _ ln22) (by kernel_rfl)
  ·refine W.cond true (w := (!c12)) (by kernel_rfl) (congrArg (fun b => !b) (bfalse h14)) ?_
   refine W.adv 9 ?_
   exact W.to_loop (P := step_Shares_v0_l0_s x1_f0_0 x1_f0_1 x22 x23 (wi (x24 + 1))) (H ) (by kernel_rfl)
 ·refine W.cond false (w := (decide (x24 < x23))) (by kernel_rfl) (decide_eq_false h6) ?_
  refine W.adv 8 ?_
  obtain ⟨c24t0, c24t1, hc25, H⟩ := H
  refine W.callR (g := 59) (ds := [.nilS]) (es := [.nilS]) (r := (.tuple [(.list 3 (c24t0.map E_api_Rat)), .int .i64 c24t1])) (by kernel_rfl) (by kernel_rfl) (Ic.args hc25 (by kernel_rfl)) (by kernel_rfl) ?_
  refine W.adv 14 ?_
  rcases H with ⟨h26, H⟩ | ⟨h26, H⟩
  ·refine W.cond false (w := (!(decide (c24t1 = 0)))) (by kernel_rfl) (congrArg (fun b => !b) (decide_eq_true h26)) ?_
   refine W.adv 11 ?_
   exact W.fin (x := .ret) (by kernel_rfl) (Ans.of (d := (.tuple [.nilS, (.list 3 (c24t0.map E_api_Rat))])) (d' := (.tuple [.nilS, (.list 3 (c24t0.map E_api_Rat))])) (e' := (.tuple [(.list 2 (([] : List T_api_Hop).map E_api_Hop)), (.list 3 (c24t0.map E_api_Rat))])) (by kernel_rfl) (by kernel_rfl) (by kernel_rfl) (by rw [H.1, H.2]))
  ·refine W.cond true (w := (!(decide (c24t1 = 0)))) (by kernel_rfl) (congrArg (fun b => !b) (decide_eq_false h26)) ?_
   refine W.adv 8 ?_
   exact W.fin (x := .ret) (by kernel_rfl) (Ans.of (d := (.tuple [.nilS, .nilS])) (d' := (.tuple [.nilS, .nilS])) (e' := (.tuple [(.list 2 (([] : List T_api_Hop).map E_api_Hop)), (.list 3 (([] : List T_api_Rat).map E_api_Rat))])) (by kernel_rfl) (by kernel_rfl) (by kernel_rfl) (by rw [H.1, H.2]))
theorem step_Shares_v0_l1_go {x1_f0_0 : List T_string} {x1_f0_1 : Int} {x22 : List T_api_Hop} {x23 : Int} {x24 : Int} {r39 : List T_api_Hop} {r44 : List Int} {zt0 : List T_api_Hop} {zt1 : List T_api_Rat} (H : ((x24 < x23 ∧ (0 ≤ x24 ∧ (x24 < (x22.length : Int) ∧ (∃ e30 : ByteArray, (∃ e31 : Int, (x22.getD (x24).toNat (ByteArray.empty, 0) = (e30, e31) ∧ (∃ c33 : Bool, (_law30_names__is_R x1_f0_0 x1_f0_1 e30 c33 ∧ ((c33 = true ∧ ((e31 < 1 ∧ (zt0 = ([] : List T_api_Hop) ∧ zt1 = ([] : List T_api_Rat))) ∨ (¬ e31 < 1 ∧ ((r39.length + 1 + 192) * (24 + 1) ≤ 70368744177664 ∧ (∃ y37 : List T_api_Hop, y37 = r39 ++ [(e30, e31)] ∧ ((r44.length + 1 + 192) * (8 + 1) ≤ 70368744177664 ∧ (∃ y41, y41 = r44 ++ [e31] ∧ (step_Shares_v0_l1 x1_f0_0 x1_f0_1 x22 x23 (wi (x24 + 1)) y37 y41 zt0 zt1)))))))) ∨ (¬ c33 = true ∧ (step_Shares_v0_l1 x1_f0_0 x1_f0_1 x22 x23 (wi (x24 + 1)) r39 r44 zt0 zt1))))))))))) ∨ (¬ x24 < x23 ∧ (∃ c45t0 : List T_api_Rat, (∃ c45t1 : Int, (fold_Shares_R r44 c45t0 c45t1 ∧ ((c45t1 = 0 ∧ (zt0 = r39 ∧ zt1 = c45t0)) ∨ (¬ c45t1 = 0 ∧ (zt0 = ([] : List T_api_Hop) ∧ zt1 = ([] : List T_api_Rat)))))))))) : step_Shares_v0_l1 x1_f0_0 x1_f0_1 x22 x23 x24 r39 r44 zt0 zt1 := by
 intro n39 ln_39 n44 ln_44 j jb vs
 refine W.adv 1 ?_
 refine W.adv 6 ?_
 rcases H with ⟨h27, H⟩ | ⟨h27, H⟩
 ·refine W.cond true (w := (decide (x24 < x23))) (by kernel_rfl) (decide_eq_true h27) ?_
  refine W.adv 6 ?_
  obtain ⟨h28, h29, H⟩ := H
  obtain ⟨e30, e31, he32, H⟩ := H
  refine W.opS (OpIs.ixE (enc := E_api_Hop) (n := 2) (k' := .i64) (L := x22) (i := x24) (d0 := (ByteArray.empty, 0)) (x := (e30, e31)) (by kernel_rfl) h28 h29 he32) ?_
  refine W.adv 2 ?_
  refine W.opH (OpIs.stV (b := 10) (v := ((jb 10).ver + 1)) (i := 0) (off := 0) (w := ((jb 10).ver + 1)) (n := 2) (s := 2) (xs := [(.agg [.str ⟨#[]⟩, .int .i64 0])]) (ys := [(.agg [.str e30, .int .i64 e31])]) (d := (.agg [.str ⟨#[]⟩, .int .i64 0])) (y := (.agg [.str e30, .int .i64 e31])) (by kernel_rfl) rfl (by kernel_rfl) (by kernel_rfl) (Nat.le_of_ble_eq_true (by kernel_rfl)) (by kernel_rfl) (by kernel_rfl)) ?_
  refine W.adv 7 ?_
  refine W.opS (OpIs.ldV (b := 10) (v := ((jb 10).ver + 1)) (i := 0) (off := 0) (w := ((jb 10).ver + 1)) (n := 2) (s := 1) (fz := false) (a := false) (xs := [(.agg [.str e30, .int .i64 e31])]) (r := (.str e30)) (by kernel_rfl) rfl (by kernel_rfl)) ?_
  obtain ⟨c33, hc34, H⟩ := H
  refine W.callR (g := 20) (ds := [(.agg [(.list 1 (x1_f0_0.map E_string)), .int .u64 x1_f0_1]), .str e30]) (es := [(.agg [(.list 1 (x1_f0_0.map E_string)), .int .u64 x1_f0_1]), .str e30]) (r := (.bool c33)) (by kernel_rfl) (by kernel_rfl) (Ic.args hc34 (by kernel_rfl)) (by kernel_rfl) ?_
  refine W.adv 3 ?_
  rcases H with ⟨h35, H⟩ | ⟨h35, H⟩
  ·refine W.cond false (w := (!c33)) (by kernel_rfl) (congrArg (fun b => !b) h35) ?_
   refine W.adv 6 ?_
   refine W.opS (OpIs.ldV (b := 10) (v := ((jb 10).ver + 1)) (i := 0) (off := 1) (w := ((jb 10).ver + 1)) (n := 2) (s := 1) (fz := false) (a := false) (xs := [(.agg [.str e30, .int .i64 e31])]) (r := (.int .i64 e31)) (by kernel_rfl) rfl (by kernel_rfl)) ?_
   refine W.adv 3 ?_
   rcases H with ⟨h36, H⟩ | ⟨h36, H⟩
   ·refine W.cond true (w := (decide (e31 < 1))) (by kernel_rfl) (decide_eq_true h36) ?_
    refine W.adv 13 ?_
    exact W.fin (x := .ret) (by kernel_rfl) (Ans.of (d := (.tuple [.nilS, .nilS])) (d' := (.tuple [.nilS, .nilS])) (e' := (.tuple [(.list 2 (([] : List T_api_Hop).map E_api_Hop)), (.list 3 (([] : List T_api_Rat).map E_api_Rat))])) (by kernel_rfl) (by kernel_rfl) (by kernel_rfl) (by rw [H.1, H.2]))
   ·refine W.cond false (w := (decide (e31 < 1))) (by kernel_rfl) (decide_eq_false h36) ?_
    refine W.adv 4 ?_
    refine W.opS (OpIs.ldV (b := 10) (v := ((jb 10).ver + 1)) (i := 0) (off := 0) (w := ((jb 10).ver + 1)) (n := 2) (s := 2) (fz := false) (a := true) (xs := [(.agg [.str e30, .int .i64 e31])]) (r := (.agg [.str e30, .int .i64 e31])) (by kernel_rfl) rfl (by kernel_rfl)) ?_
    refine W.adv 1 ?_
    obtain ⟨h40, H⟩ := H
    obtain ⟨y37, hy38, H⟩ := H
    have ln39 : (r39.length + 1) = y37.length := by rw [hy38, List.length_append] <;> rfl
    refine W.opK (OpIs.apERow (enc := E_api_Hop) (y := (.lit (.list 2 [(.agg [.str e30, .int .i64 e31])]))) (n := 24) (d := 39) (dv := ((vs 39) + 1)) (b := 39) (v := ((vs 39) + 1)) (w := ((vs 39) + 1)) (len := n39) (m := 2) (xs := r39) (ys := [(e30, e31)]) (by kernel_rfl) (by kernel_rfl) hy38 rfl ln_39 h40) ?_
    refine W.adv 2 ?_
    refine W.opS (OpIs.ldV (b := 10) (v := ((jb 10).ver + 1)) (i := 0) (off := 1) (w := ((jb 10).ver + 1)) (n := 2) (s := 1) (fz := false) (a := false) (xs := [(.agg [.str e30, .int .i64 e31])]) (r := (.int .i64 e31)) (by kernel_rfl) rfl (by kernel_rfl)) ?_
    refine W.adv 1 ?_
    obtain ⟨h44, H⟩ := H
    obtain ⟨y41, hy42, H⟩ := H
    have ln43 : (r44.length + 1) = y41.length := by rw [hy42, List.length_append] <;> rfl
    refine W.opK (OpIs.apRow (y := (.lit (.ints .i64 [e31]))) (n := 8) (d := 44) (dv := ((vs 44) + 1)) (b := 44) (v := ((vs 44) + 1)) (w := ((vs 44) + 1)) (len := n44) (k := .i64) (xs := r44) (ys := [e31]) (by kernel_rfl) (by kernel_rfl) hy42 rfl ln_44 h44) ?_
    refine W.adv 10 ?_
    exact W.to_loop (P := step_Shares_v0_l1_s x1_f0_0 x1_f0_1 x22 x23 (wi (x24 + 1)) y37 y41 (r39.length + 1) (r44.length + 1)) (H _ ln39 _ ln43) (by kernel_rfl)
  ·refine W.cond true (w := (!c33)) (by kernel_rfl) (congrArg (fun b => !b) (bfalse h35)) ?_
   refine W.adv 9 ?_
   exact W.to_loop (P := step_Shares_v0_l1_s x1_f0_0 x1_f0_1 x22 x23 (wi (x24 + 1)) r39 r44 n39 n44) (H _ ln_39 _ ln_44) (by kernel_rfl)
 ·refine W.cond false (w := (decide (x24 < x23))) (by kernel_rfl) (decide_eq_false h27) ?_
  refine W.adv 8 ?_
  obtain ⟨c45t0, c45t1, hc46, H⟩ := H
  refine W.callR (g := 59) (ds := [(.sref 44 ((vs 44) + 1) 1 0 n44)]) (es := [.ints .i64 r44]) (r := (.tuple [(.list 3 (c45t0.map E_api_Rat)), .int .i64 c45t1])) (by kernel_rfl) (rf_cons (rf_full (b := 44) (v := ((vs 44) + 1)) (w := ((vs 44) + 1)) (fz := false) (k := .i64) (xs := r44) (by kernel_rfl) rfl ln_44) rf_nil) (Ic.args hc46 (by kernel_rfl)) (by kernel_rfl) ?_
  refine W.adv 14 ?_
  rcases H with ⟨h47, H⟩ | ⟨h47, H⟩
  ·refine W.cond false (w := (!(decide (c45t1 = 0)))) (by kernel_rfl) (congrArg (fun b => !b) (decide_eq_true h47)) ?_
   refine W.adv 11 ?_
   exact W.fin (x := .ret) (by kernel_rfl) (Ans.of (d := (.tuple [(.sref 39 ((vs 39) + 1) 2 0 n39), (.list 3 (c45t0.map E_api_Rat))])) (d' := (.tuple [(.list 2 (r39.map E_api_Hop)), (.list 3 (c45t0.map E_api_Rat))])) (e' := (.tuple [(.list 2 (r39.map E_api_Hop)), (.list 3 (c45t0.map E_api_Rat))])) (by kernel_rfl) ((congrArg (fun h => reify h DEPTH (.tuple [(.sref 39 ((vs 39) + 1) 2 0 n39), (.list 3 (c45t0.map E_api_Rat))])) (tidy_ver (b := 39) (v := (vs 39)) (fz := false) (y := .rows 2 (r39.map E_api_Hop)) (by kernel_rfl))).trans (rf_tup (rf_cons (rf_fullE (enc := E_api_Hop) E_api_Hop_t (b := 39) (v := ((vs 39) + 1)) (w := ((vs 39) + 1)) (fz := false) (xs := r39) (by kernel_rfl) rfl ln_39) (rf_cons (by kernel_rfl) rf_nil)))) (by kernel_rfl) (by rw [H.1, H.2]))
  ·refine W.cond true (w := (!(decide (c45t1 = 0)))) (by kernel_rfl) (congrArg (fun b => !b) (decide_eq_false h47)) ?_
   refine W.adv 8 ?_
   exact W.fin (x := .ret) (by kernel_rfl) (Ans.of (d := (.tuple [.nilS, .nilS])) (d' := (.tuple [.nilS, .nilS])) (e' := (.tuple [(.list 2 (([] : List T_api_Hop).map E_api_Hop)), (.list 3 (([] : List T_api_Rat).map E_api_Rat))])) (by kernel_rfl) (by kernel_rfl) (by kernel_rfl) (by rw [H.1, H.2]))
theorem step_Shares_v0_go {a0_0 : ByteArray} {a0_1 : Int} {a0_2 : Int} {a0_3 : Bool} {a0_4 : List T71} {a1_f0_0 : List T_string} {a1_f0_1 : Int} {zt0 : List T_api_Hop} {zt1 : List T_api_Rat} (H : (∃ c1 : Int, (step_Group_v0_R a0_0 a0_1 a0_2 a0_3 a0_4 a1_f0_0 a1_f0_1 c1 ∧ ((c1 < 0 ∧ (zt0 = ([] : List T_api_Hop) ∧ zt1 = ([] : List T_api_Rat))) ∨ (¬ c1 < 0 ∧ (0 ≤ c1 ∧ (c1 < (a0_4.length : Int) ∧ (step_Shares_v0_l0 a1_f0_0 a1_f0_1 (a0_4.getD (c1).toNat []) ((a0_4.getD (c1).toNat []).length : Int) 0 zt0 zt1)))))))) : step_Shares_v0_R a0_0 a0_1 a0_2 a0_3 a0_4 a1_f0_0 a1_f0_1 zt0 zt1 := by
 refine W.ic (zs := [(.agg [.str a0_0, .int .u32 a0_1, .int .i64 a0_2, .bool a0_3, (.list 1 (a0_4.map E71))]), (.fn 20 [(.agg [(.list 1 (a1_f0_0.map E_string)), .int .u64 a1_f0_1])] [])]) Tryz.func19 (by kernel_rfl) (by kernel_rfl) (by kernel_rfl) (by kernel_rfl) ?_
 refine W.adv 11 ?_
 obtain ⟨c1, hc2, H⟩ := H
 refine W.callN (g := 21) (ds := [(.agg [.str a0_0, .int .u32 a0_1, .int .i64 a0_2, .bool a0_3, (.list 1 (a0_4.map E71))]), (.fn 20 [(.agg [(.list 1 (a1_f0_0.map E_string)), .int .u64 a1_f0_1])] [])]) (es := [(.agg [.str a0_0, .int .u32 a0_1, .int .i64 a0_2, .bool a0_3, (.list 1 (a0_4.map E71))]), (.fn 20 [(.agg [(.list 1 (a1_f0_0.map E_string)), .int .u64 a1_f0_1])] [])]) (r := (.int .i64 c1)) (by kernel_rfl) (by kernel_rfl) (by kernel_rfl) (Ic.args hc2 (by kernel_rfl)) ?_
 refine W.adv 10 ?_
 rcases H with ⟨h3, H⟩ | ⟨h3, H⟩
 ·refine W.cond true (w := (decide (c1 < 0))) (by kernel_rfl) (decide_eq_true h3) ?_
  refine W.adv 8 ?_
  exact W.fin (x := .ret) (by kernel_rfl) (Ans.of (d := (.tuple [.nilS, .nilS])) (d' := (.tuple [.nilS, .nilS])) (e' := (.tuple [(.list 2 (([] : List T_api_Hop).map E_api_Hop)), (.list 3 (([] : List T_api_Rat).map E_api_Rat))])) (by kernel_rfl) (by kernel_rfl) (by kernel_rfl) (by rw [H.1, H.2]))
 ·refine W.cond false (w := (decide (c1 < 0))) (by kernel_rfl) (decide_eq_false h3) ?_
  refine W.adv 18 ?_
  obtain ⟨h4, h5, H⟩ := H
  refine W.opS (OpIs.ixE (enc := E71) (n := 1) (k' := .i64) (L := a0_4) (i := c1) (d0 := []) (x := (a0_4.getD (c1).toNat [])) (by kernel_rfl) h4 h5 rfl) ?_
  refine W.adv 1 ?_
  refine W.opS (OpIs.ln (n := ((a0_4.getD (c1).toNat []).map E_api_Hop).length) (m := (a0_4.getD (c1).toNat []).length) (by kernel_rfl) (by rw [List.length_map])) ?_
  refine W.adv 4 ?_
  exact W.to_loop (P := step_Shares_v0_l0_s a1_f0_0 a1_f0_1 (a0_4.getD (c1).toNat []) ((a0_4.getD (c1).toNat []).length : Int) 0) (H ) (by kernel_rfl)
theorem step_Group_v0_go {a0_0 : ByteArray} {a0_1 : Int} {a0_2 : Int} {a0_3 : Bool} {a0_4 : List T71} {a1_f0_0 : List T_string} {a1_f0_1 : Int} {z : Int} (H : (∃ c1 : Int, (slices_IndexFunc_____api_Hop___api_Hop__v0_R a0_4 a1_f0_0 a1_f0_1 c1 ∧ (z = c1)))) : step_Group_v0_R a0_0 a0_1 a0_2 a0_3 a0_4 a1_f0_0 a1_f0_1 z := by
 refine W.ic (zs := [(.agg [.str a0_0, .int .u32 a0_1, .int .i64 a0_2, .bool a0_3, (.list 1 (a0_4.map E71))]), (.fn 20 [(.agg [(.list 1 (a1_f0_0.map E_string)), .int .u64 a1_f0_1])] [])]) Tryz.func21 (by kernel_rfl) (by kernel_rfl) (by kernel_rfl) (by kernel_rfl) ?_
 refine W.adv 12 ?_
 obtain ⟨c1, hc2, H⟩ := H
 refine W.callN (g := 60) (ds := [(.list 1 (a0_4.map E71)), (.fn 61 [] [.pref 3 1 0 0])]) (es := [(.list 1 (a0_4.map E71)), (.fn 61 [] [(.ptr [(.fn 20 [(.agg [(.list 1 (a1_f0_0.map E_string)), .int .u64 a1_f0_1])] [])])])]) (r := (.int .i64 c1)) (by kernel_rfl) (by kernel_rfl) (rf_cons (by kernel_rfl) (rf_cons (rf_fn rf_nil (rf_cons (by kernel_rfl) rf_nil)) rf_nil)) (Ic.args hc2 (by kernel_rfl)) ?_
 refine W.adv 4 ?_
 exact W.fin (x := .ret) (by kernel_rfl) (Ans.of (d := (.int .i64 c1)) (d' := (.int .i64 c1)) (e' := (.int .i64 c1)) (by kernel_rfl) (by kernel_rfl) (by kernel_rfl) (by rw [H]))
theorem step_Group_1_v0_go {a0 : List T_api_Hop} {a1_0_f0_0 : List T_string} {a1_0_f0_1 : Int} {z : Bool} (H : (∃ c1 : Bool, (slices_ContainsFunc___api_Hop_api_Hop__v0_R a0 a1_0_f0_0 a1_0_f0_1 c1 ∧ (z = c1)))) : step_Group_1_v0_R a0 a1_0_f0_0 a1_0_f0_1 z := by
 refine W.ic (zs := [(.list 2 (a0.map E_api_Hop)), (.ptr [(.fn 20 [(.agg [(.list 1 (a1_0_f0_0.map E_string)), .int .u64 a1_0_f0_1])] [])])]) Tryz.func61 (by kernel_rfl) (by kernel_rfl) (by kernel_rfl) (by kernel_rfl) ?_
 refine W.adv 9 ?_
 obtain ⟨c1, hc2, H⟩ := H
 refine W.callN (g := 62) (ds := [(.list 2 (a0.map E_api_Hop)), (.fn 63 [] [(.ptr [(.fn 20 [(.agg [(.list 1 (a1_0_f0_0.map E_string)), .int .u64 a1_0_f0_1])] [])])])]) (es := [(.list 2 (a0.map E_api_Hop)), (.fn 63 [] [(.ptr [(.fn 20 [(.agg [(.list 1 (a1_0_f0_0.map E_string)), .int .u64 a1_0_f0_1])] [])])])]) (r := (.bool c1)) (by kernel_rfl) (by kernel_rfl) (by kernel_rfl) (Ic.args hc2 (by kernel_rfl)) ?_
 refine W.adv 4 ?_
 exact W.fin (x := .ret) (by kernel_rfl) (Ans.of (d := (.bool c1)) (d' := (.bool c1)) (e' := (.bool c1)) (by kernel_rfl) (by kernel_rfl) (by kernel_rfl) (by rw [H]))
theorem step_Group_1_1_v0_go {a0_0 : ByteArray} {a0_1 : Int} {a1_0_f0_0 : List T_string} {a1_0_f0_1 : Int} {z : Bool} (H : (∃ c1 : Bool, (_law30_names__is_R a1_0_f0_0 a1_0_f0_1 a0_0 c1 ∧ (z = c1)))) : step_Group_1_1_v0_R a0_0 a0_1 a1_0_f0_0 a1_0_f0_1 z := by
 refine W.ic (zs := [(.agg [.str a0_0, .int .i64 a0_1]), (.ptr [(.fn 20 [(.agg [(.list 1 (a1_0_f0_0.map E_string)), .int .u64 a1_0_f0_1])] [])])]) Tryz.func63 (by kernel_rfl) (by kernel_rfl) (by kernel_rfl) (by kernel_rfl) ?_
 refine W.adv 11 ?_
 obtain ⟨c1, hc2, H⟩ := H
 refine W.callR (g := 20) (ds := [(.agg [(.list 1 (a1_0_f0_0.map E_string)), .int .u64 a1_0_f0_1]), .str a0_0]) (es := [(.agg [(.list 1 (a1_0_f0_0.map E_string)), .int .u64 a1_0_f0_1]), .str a0_0]) (r := (.bool c1)) (by kernel_rfl) (by kernel_rfl) (Ic.args hc2 (by kernel_rfl)) (by kernel_rfl) ?_
 refine W.adv 4 ?_
 exact W.fin (x := .ret) (by kernel_rfl) (Ans.of (d := (.bool c1)) (d' := (.bool c1)) (e' := (.bool c1)) (by kernel_rfl) (by kernel_rfl) (by kernel_rfl) (by rw [H]))
end Go.Proofs.YtjcdkemnflmfiaaGreatA
