/- Walks through the functions: what makes each relation true. -/
import Derived.Test.YtjcdkemnflmfiaaGreatW0
set_option linter.unusedVariables false
set_option maxRecDepth 100000
namespace Go.Proofs.YtjcdkemnflmfiaaGreatA
open Go Go.Proofs
/-! ### trivium/triviumref44.Covered -/
noncomputable def ref44_Covered_l0_s (x1 : List T_api_Prefix) (x6 : List Int) (x7 : Int) (r5_0_0 : Int) (r5_0_1 : Int) (j : Nat → D) (jb : Nat → Blk) (vs : Nat → Nat) : Cf := cfAt Tryz.f28 [1, 1, 1, 1, 0, 1, 0] ⟨[(j 0), (.list 2 (x1.map E_api_Prefix)), (j 2), (j 3), (j 4), (.pref 5 1 0 0), (.lit (.ints .u32 x6)), (.int .i64 x7), (j 8), (j 9), (j 10), (j 11), (j 12), (j 13), (j 14), (j 15), (j 16), (j 17), (j 18), (j 19), (j 20), (j 21), (j 22), (j 23), (j 24), (j 25), (j 26), (j 27), (j 28), (j 29), (j 30), (j 31), (j 32), (j 33), (j 34), (j 35), (j 36), (j 37), (j 38), (j 39), (j 40), (j 41), (j 42), (j 43), (j 44), (j 45), (j 46), (j 47), (j 48), (j 49), (j 50), (j 51), (j 52), (j 53), (j 54), (j 55), (j 56), (j 57), (j 58), (j 59), (j 60), (j 61), (j 62), (j 63), (j 64), (j 65), (j 66), (j 67), (j 68), (j 69), (j 70), (j 71), (j 72), (j 73), (j 74), (j 75), (j 76), (j 77), (j 78), (j 79), (j 80), (j 81), (j 82), (j 83), (j 84), (j 85), (j 86), (j 87), (j 88), (j 89), (j 90), (j 91)], [(jb 0), (jb 1), (jb 2), (jb 3), (jb 4), ⟨1, false, .rows 2 [(.agg [(.int .u32 r5_0_0), (.int .u32 r5_0_1)])]⟩, (jb 6), (jb 7), (jb 8), (jb 9), (jb 10), (jb 11), (jb 12), (jb 13), (jb 14), (jb 15), (jb 16), (jb 17), (jb 18), (jb 19), (jb 20), (jb 21), (jb 22), (jb 23), (jb 24), (jb 25), (jb 26), (jb 27), (jb 28), (jb 29), (jb 30), (jb 31), (jb 32), (jb 33), (jb 34), (jb 35), (jb 36), (jb 37), (jb 38), (jb 39), (jb 40), (jb 41), (jb 42), (jb 43), (jb 44), (jb 45), (jb 46), (jb 47), (jb 48), (jb 49), (jb 50), (jb 51), (jb 52), (jb 53), (jb 54), (jb 55), (jb 56), (jb 57), (jb 58), (jb 59), (jb 60), (jb 61), (jb 62), (jb 63), (jb 64), (jb 65), (jb 66), (jb 67), (jb 68), (jb 69), (jb 70), (jb 71), (jb 72), (jb 73), (jb 74), (jb 75), (jb 76), (jb 77), (jb 78), (jb 79), (jb 80), (jb 81), (jb 82), (jb 83), (jb 84), (jb 85), (jb 86), (jb 87), (jb 88), (jb 89), (jb 90), (jb 91)]⟩
def ref44_Covered_l0 (x1 : List T_api_Prefix) (x6 : List Int) (x7 : Int) (r5_0_0 : Int) (r5_0_1 : Int) (z : Bool) : Prop := ∀ j jb vs, W C F 28 0 (ref44_Covered_l0_s x1 x6 x7 r5_0_0 r5_0_1  j jb vs) (Ans C Tryz.f28 (.bool z))
noncomputable def ref44_Covered_l1_s (x1 : List T_api_Prefix) (x7 : Int) (r5_0_0 : Int) (r5_0_1 : Int) (r40 : List Int) (n40 : Nat) (j : Nat → D) (jb : Nat → Blk) (vs : Nat → Nat) : Cf := cfAt Tryz.f28 [1, 1, 1, 1, 0, 1, 0] ⟨[(j 0), (.list 2 (x1.map E_api_Prefix)), (j 2), (j 3), (j 4), (.pref 5 1 0 0), (.sref 40 ((vs 40) + 1) 1 0 n40), (.int .i64 x7), (j 8), (j 9), (j 10), (j 11), (j 12), (j 13), (j 14), (j 15), (j 16), (j 17), (j 18), (j 19), (j 20), (j 21), (j 22), (j 23), (j 24), (j 25), (j 26), (j 27), (j 28), (j 29), (j 30), (j 31), (j 32), (j 33), (j 34), (j 35), (j 36), (j 37), (j 38), (j 39), (j 40), (j 41), (j 42), (j 43), (j 44), (j 45), (j 46), (j 47), (j 48), (j 49), (j 50), (j 51), (j 52), (j 53), (j 54), (j 55), (j 56), (j 57), (j 58), (j 59), (j 60), (j 61), (j 62), (j 63), (j 64), (j 65), (j 66), (j 67), (j 68), (j 69), (j 70), (j 71), (j 72), (j 73), (j 74), (j 75), (j 76), (j 77), (j 78), (j 79), (j 80), (j 81), (j 82), (j 83), (j 84), (j 85), (j 86), (j 87), (j 88), (j 89), (j 90), (j 91)], [(jb 0), (jb 1), (jb 2), (jb 3), (jb 4), ⟨1, false, .rows 2 [(.agg [(.int .u32 r5_0_0), (.int .u32 r5_0_1)])]⟩, (jb 6), (jb 7), (jb 8), (jb 9), (jb 10), (jb 11), (jb 12), (jb 13), (jb 14), (jb 15), (jb 16), (jb 17), (jb 18), (jb 19), (jb 20), (jb 21), (jb 22), (jb 23), (jb 24), (jb 25), (jb 26), (jb 27), (jb 28), (jb 29), (jb 30), (jb 31), (jb 32), (jb 33), (jb 34), (jb 35), (jb 36), (jb 37), (jb 38), (jb 39), ⟨((vs 40) + 1), false, .ints .u32 r40⟩, (jb 41), (jb 42), (jb 43), (jb 44), (jb 45), (jb 46), (jb 47), (jb 48), (jb 49), (jb 50), (jb 51), (jb 52), (jb 53), (jb 54), (jb 55), (jb 56), (jb 57), (jb 58), (jb 59), (jb 60), (jb 61), (jb 62), (jb 63), (jb 64), (jb 65), (jb 66), (jb 67), (jb 68), (jb 69), (jb 70), (jb 71), (jb 72), (jb 73), (jb 74), (jb 75), (jb 76), (jb 77), (jb 78), (jb 79), (jb 80), (jb 81), (jb 82), (jb 83), (jb 84), (jb 85), (jb 86), (jb 87), (jb 88), (jb 89), (jb 90), (jb 91)]⟩
def ref44_Covered_l1 (x1 : List T_api_Prefix) (x7 : Int) (r5_0_0 : Int) (r5_0_1 : Int) (r40 : List Int) (z : Bool) : Prop := ∀ n40, n40 = r40.length → ∀ j jb vs, W C F 28 0 (ref44_Covered_l1_s x1 x7 r5_0_0 r5_0_1 r40 n40 j jb vs) (Ans C Tryz.f28 (.bool z))
noncomputable def ref44_Covered_l2_s (x1 : List T_api_Prefix) (x7 : Int) (r5_0_0 : Int) (r5_0_1 : Int) (r49 : List Int) (n49 : Nat) (j : Nat → D) (jb : Nat → Blk) (vs : Nat → Nat) : Cf := cfAt Tryz.f28 [1, 1, 1, 1, 0, 1, 0] ⟨[(j 0), (.list 2 (x1.map E_api_Prefix)), (j 2), (j 3), (j 4), (.pref 5 1 0 0), (.sref 49 ((vs 49) + 1) 1 0 n49), (.int .i64 x7), (j 8), (j 9), (j 10), (j 11), (j 12), (j 13), (j 14), (j 15), (j 16), (j 17), (j 18), (j 19), (j 20), (j 21), (j 22), (j 23), (j 24), (j 25), (j 26), (j 27), (j 28), (j 29), (j 30), (j 31), (j 32), (j 33), (j 34), (j 35), (j 36), (j 37), (j 38), (j 39), (j 40), (j 41), (j 42), (j 43), (j 44), (j 45), (j 46), (j 47), (j 48), (j 49), (j 50), (j 51), (j 52), (j 53), (j 54), (j 55), (j 56), (j 57), (j 58), (j 59), (j 60), (j 61), (j 62), (j 63), (j 64), (j 65), (j 66), (j 67), (j 68), (j 69), (j 70), (j 71), (j 72), (j 73), (j 74), (j 75), (j 76), (j 77), (j 78), (j 79), (j 80), (j 81), (j 82), (j 83), (j 84), (j 85), (j 86), (j 87), (j 88), (j 89), (j 90), (j 91)], [(jb 0), (jb 1), (jb 2), (jb 3), (jb 4), ⟨1, false, .rows 2 [(.agg [(.int .u32 r5_0_0), (.int .u32 r5_0_1)])]⟩, (jb 6), (jb 7), (jb 8), (jb 9), (jb 10), (jb 11), (jb 12), (jb 13), (jb 14), (jb 15), (jb 16), (jb 17), (jb 18), (jb 19), (jb 20), (jb 21), (jb 22), (jb 23), (jb 24), (jb 25), (jb 26), (jb 27), (jb 28), (jb 29), (jb 30), (jb 31), (jb 32), (jb 33), (jb 34), (jb 35), (jb 36), (jb 37), (jb 38), (jb 39), (jb 40), (jb 41), (jb 42), (jb 43), (jb 44), (jb 45), (jb 46), (jb 47), (jb 48), ⟨((vs 49) + 1), false, .ints .u32 r49⟩, (jb 50), (jb 51), (jb 52), (jb 53), (jb 54), (jb 55), (jb 56), (jb 57), (jb 58), (jb 59), (jb 60), (jb 61), (jb 62), (jb 63), (jb 64), (jb 65), (jb 66), (jb 67), (jb 68), (jb 69), (jb 70), (jb 71), (jb 72), (jb 73), (jb 74), (jb 75), (jb 76), (jb 77), (jb 78), (jb 79), (jb 80), (jb 81), (jb 82), (jb 83), (jb 84), (jb 85), (jb 86), (jb 87), (jb 88), (jb 89), (jb 90), (jb 91)]⟩
def ref44_Covered_l2 (x1 : List T_api_Prefix) (x7 : Int) (r5_0_0 : Int) (r5_0_1 : Int) (r49 : List Int) (z : Bool) : Prop := ∀ n49, n49 = r49.length → ∀ j jb vs, W C F 28 0 (ref44_Covered_l2_s x1 x7 r5_0_0 r5_0_1 r49 n49 j jb vs) (Ans C Tryz.f28 (.bool z))
noncomputable def ref44_Covered_l3_s (x1 : List T_api_Prefix) (x6 : List Int) (x9 : Int) (r5_0_0 : Int) (r5_0_1 : Int) (j : Nat → D) (jb : Nat → Blk) (vs : Nat → Nat) : Cf := cfAt Tryz.f28 [1, 1, 1, 1, 1, 0, 1, 0] ⟨[(j 0), (.list 2 (x1.map E_api_Prefix)), (j 2), (j 3), (j 4), (.pref 5 1 0 0), (.lit (.ints .u32 x6)), (j 7), (j 8), (.int .i64 x9), (j 10), (j 11), (j 12), (j 13), (j 14), (j 15), (j 16), (j 17), (j 18), (j 19), (j 20), (j 21), (j 22), (j 23), (j 24), (j 25), (j 26), (j 27), (j 28), (j 29), (j 30), (j 31), (j 32), (j 33), (j 34), (j 35), (j 36), (j 37), (j 38), (j 39), (j 40), (j 41), (j 42), (j 43), (j 44), (j 45), (j 46), (j 47), (j 48), (j 49), (j 50), (j 51), (j 52), (j 53), (j 54), (j 55), (j 56), (j 57), (j 58), (j 59), (j 60), (j 61), (j 62), (j 63), (j 64), (j 65), (j 66), (j 67), (j 68), (j 69), (j 70), (j 71), (j 72), (j 73), (j 74), (j 75), (j 76), (j 77), (j 78), (j 79), (j 80), (j 81), (j 82), (j 83), (j 84), (j 85), (j 86), (j 87), (j 88), (j 89), (j 90), (j 91)], [(jb 0), (jb 1), (jb 2), (jb 3), (jb 4), ⟨1, false, .rows 2 [(.agg [(.int .u32 r5_0_0), (.int .u32 r5_0_1)])]⟩, (jb 6), (jb 7), (jb 8), (jb 9), (jb 10), (jb 11), (jb 12), (jb 13), (jb 14), (jb 15), (jb 16), (jb 17), (jb 18), (jb 19), (jb 20), (jb 21), (jb 22), (jb 23), (jb 24), (jb 25), (jb 26), (jb 27), (jb 28), (jb 29), (jb 30), (jb 31), (jb 32), (jb 33), (jb 34), (jb 35), (jb 36), (jb 37), (jb 38), (jb 39), (jb 40), (jb 41), (jb 42), (jb 43), (jb 44), (jb 45), (jb 46), (jb 47), (jb 48), (jb 49), (jb 50), (jb 51), (jb 52), (jb 53), (jb 54), (jb 55), (jb 56), (jb 57), (jb 58), (jb 59), (jb 60), (jb 61), (jb 62), (jb 63), (jb 64), (jb 65), (jb 66), (jb 67), (jb 68), (jb 69), (jb 70), (jb 71), (jb 72), (jb 73), (jb 74), (jb 75), (jb 76), (jb 77), (jb 78), (jb 79), (jb 80), (jb 81), (jb 82), (jb 83), (jb 84), (jb 85), (jb 86), (jb 87), (jb 88), (jb 89), (jb 90), (jb 91)]⟩
def ref44_Covered_l3 (x1 : List T_api_Prefix) (x6 : List Int) (x9 : Int) (r5_0_0 : Int) (r5_0_1 : Int) (z : Bool) : Prop := ∀ j jb vs, W C F 28 0 (ref44_Covered_l3_s x1 x6 x9 r5_0_0 r5_0_1  j jb vs) (Ans C Tryz.f28 (.bool z))
noncomputable def ref44_Covered_l4_s (x1 : List T_api_Prefix) (x9 : Int) (r5_0_0 : Int) (r5_0_1 : Int) (r40 : List Int) (n40 : Nat) (j : Nat → D) (jb : Nat → Blk) (vs : Nat → Nat) : Cf := cfAt Tryz.f28 [1, 1, 1, 1, 1, 0, 1, 0] ⟨[(j 0), (.list 2 (x1.map E_api_Prefix)), (j 2), (j 3), (j 4), (.pref 5 1 0 0), (.sref 40 ((vs 40) + 1) 1 0 n40), (j 7), (j 8), (.int .i64 x9), (j 10), (j 11), (j 12), (j 13), (j 14), (j 15), (j 16), (j 17), (j 18), (j 19), (j 20), (j 21), (j 22), (j 23), (j 24), (j 25), (j 26), (j 27), (j 28), (j 29), (j 30), (j 31), (j 32), (j 33), (j 34), (j 35), (j 36), (j 37), (j 38), (j 39), (j 40), (j 41), (j 42), (j 43), (j 44), (j 45), (j 46), (j 47), (j 48), (j 49), (j 50), (j 51), (j 52), (j 53), (j 54), (j 55), (j 56), (j 57), (j 58), (j 59), (j 60), (j 61), (j 62), (j 63), (j 64), (j 65), (j 66), (j 67), (j 68), (j 69), (j 70), (j 71), (j 72), (j 73), (j 74), (j 75), (j 76), (j 77), (j 78), (j 79), (j 80), (j 81), (j 82), (j 83), (j 84), (j 85), (j 86), (j 87), (j 88), (j 89), (j 90), (j 91)], [(jb 0), (jb 1), (jb 2), (jb 3), (jb 4), ⟨1, false, .rows 2 [(.agg [(.int .u32 r5_0_0), (.int .u32 r5_0_1)])]⟩, (jb 6), (jb 7), (jb 8), (jb 9), (jb 10), (jb 11), (jb 12), (jb 13), (jb 14), (jb 15), (jb 16), (jb 17), (jb 18), (jb 19), (jb 20), (jb 21), (jb 22), (jb 23), (jb 24), (jb 25), (jb 26), (jb 27), (jb 28), (jb 29), (jb 30), (jb 31), (jb 32), (jb 33), (jb 34), (jb 35), (jb 36), (jb 37), (jb 38), (jb 39), ⟨((vs 40) + 1), false, .ints .u32 r40⟩, (jb 41), (jb 42), (jb 43), (jb 44), (jb 45), (jb 46), (jb 47), (jb 48), (jb 49), (jb 50), (jb 51), (jb 52), (jb 53), (jb 54), (jb 55), (jb 56), (jb 57), (jb 58), (jb 59), (jb 60), (jb 61), (jb 62), (jb 63), (jb 64), (jb 65), (jb 66), (jb 67), (jb 68), (jb 69), (jb 70), (jb 71), (jb 72), (jb 73), (jb 74), (jb 75), (jb 76), (jb 77), (jb 78), (jb 79), (jb 80), (jb 81), (jb 82), (jb 83), (jb 84), (jb 85), (jb 86), (jb 87), (jb 88), (jb 89), (jb 90), (jb 91)]⟩
def ref44_Covered_l4 (x1 : List T_api_Prefix) (x9 : Int) (r5_0_0 : Int) (r5_0_1 : Int) (r40 : List Int) (z : Bool) : Prop := ∀ n40, n40 = r40.length → ∀ j jb vs, W C F 28 0 (ref44_Covered_l4_s x1 x9 r5_0_0 r5_0_1 r40 n40 j jb vs) (Ans C Tryz.f28 (.bool z))
noncomputable def ref44_Covered_l5_s (x1 : List T_api_Prefix) (x9 : Int) (r5_0_0 : Int) (r5_0_1 : Int) (r49 : List Int) (n49 : Nat) (j : Nat → D) (jb : Nat → Blk) (vs : Nat → Nat) : Cf := cfAt Tryz.f28 [1, 1, 1, 1, 1, 0, 1, 0] ⟨[(j 0), (.list 2 (x1.map E_api_Prefix)), (j 2), (j 3), (j 4), (.pref 5 1 0 0), (.sref 49 ((vs 49) + 1) 1 0 n49), (j 7), (j 8), (.int .i64 x9), (j 10), (j 11), (j 12), (j 13), (j 14), (j 15), (j 16), (j 17), (j 18), (j 19), (j 20), (j 21), (j 22), (j 23), (j 24), (j 25), (j 26), (j 27), (j 28), (j 29), (j 30), (j 31), (j 32), (j 33), (j 34), (j 35), (j 36), (j 37), (j 38), (j 39), (j 40), (j 41), (j 42), (j 43), (j 44), (j 45), (j 46), (j 47), (j 48), (j 49), (j 50), (j 51), (j 52), (j 53), (j 54), (j 55), (j 56), (j 57), (j 58), (j 59), (j 60), (j 61), (j 62), (j 63), (j 64), (j 65), (j 66), (j 67), (j 68), (j 69), (j 70), (j 71), (j 72), (j 73), (j 74), (j 75), (j 76), (j 77), (j 78), (j 79), (j 80), (j 81), (j 82), (j 83), (j 84), (j 85), (j 86), (j 87), (j 88), (j 89), (j 90), (j 91)], [(jb 0), (jb 1), (jb 2), (jb 3), (jb 4), ⟨1, false, .rows 2 [(.agg [(.int .u32 r5_0_0), (.int .u32 r5_0_1)])]⟩, (jb 6), (jb 7), (jb 8), (jb 9), (jb 10), (jb 11), (jb 12), (jb 13), (jb 14), (jb 15), (jb 16), (jb 17), (jb 18), (jb 19), (jb 20), (jb 21), (jb 22), (jb 23), (jb 24), (jb 25), (jb 26), (jb 27), (jb 28), (jb 29), (jb 30), (jb 31), (jb 32), (jb 33), (jb 34), (jb 35), (jb 36), (jb 37), (jb 38), (jb 39), (jb 40), (jb 41), (jb 42), (jb 43), (jb 44), (jb 45), (jb 46), (jb 47), (jb 48), ⟨((vs 49) + 1), false, .ints .u32 r49⟩, (jb 50), (jb 51), (jb 52), (jb 53), (jb 54), (jb 55), (jb 56), (jb 57), (jb 58), (jb 59), (jb 60), (jb 61), (jb 62), (jb 63), (jb 64), (jb 65), (jb 66), (jb 67), (jb 68), (jb 69), (jb 70), (jb 71), (jb 72), (jb 73), (jb 74), (jb 75), (jb 76), (jb 77), (jb 78), (jb 79), (jb 80), (jb 81), (jb 82), (jb 83), (jb 84), (jb 85), (jb 86), (jb 87), (jb 88), (jb 89), (jb 90), (jb 91)]⟩
def ref44_Covered_l5 (x1 : List T_api_Prefix) (x9 : Int) (r5_0_0 : Int) (r5_0_1 : Int) (r49 : List Int) (z : Bool) : Prop := ∀ n49, n49 = r49.length → ∀ j jb vs, W C F 28 0 (ref44_Covered_l5_s x1 x9 r5_0_0 r5_0_1 r49 n49 j jb vs) (Ans C Tryz.f28 (.bool z))
noncomputable def ref44_Covered_l6_s (x1 : List T_api_Prefix) (x6 : List Int) (x9 : Int) (x10 : Bool) (x11 : Int) (r5_0_0 : Int) (r5_0_1 : Int) (j : Nat → D) (jb : Nat → Blk) (vs : Nat → Nat) : Cf := cfAt Tryz.f28 [1, 1, 1, 1, 1, 0, 1, 0, 0, 1, 0, 0, 1, 1, 0, 1, 0] ⟨[(j 0), (.list 2 (x1.map E_api_Prefix)), (j 2), (j 3), (j 4), (.pref 5 1 0 0), (.lit (.ints .u32 x6)), (j 7), (j 8), (.int .i64 x9), (.bool x10), (.int .i64 x11), (j 12), (j 13), (j 14), (j 15), (j 16), (j 17), (j 18), (j 19), (j 20), (j 21), (j 22), (j 23), (j 24), (j 25), (j 26), (j 27), (j 28), (j 29), (j 30), (j 31), (j 32), (j 33), (j 34), (j 35), (j 36), (j 37), (j 38), (j 39), (j 40), (j 41), (j 42), (j 43), (j 44), (j 45), (j 46), (j 47), (j 48), (j 49), (j 50), (j 51), (j 52), (j 53), (j 54), (j 55), (j 56), (j 57), (j 58), (j 59), (j 60), (j 61), (j 62), (j 63), (j 64), (j 65), (j 66), (j 67), (j 68), (j 69), (j 70), (j 71), (j 72), (j 73), (j 74), (j 75), (j 76), (j 77), (j 78), (j 79), (j 80), (j 81), (j 82), (j 83), (j 84), (j 85), (j 86), (j 87), (j 88), (j 89), (j 90), (j 91)], [(jb 0), (jb 1), (jb 2), (jb 3), (jb 4), ⟨1, false, .rows 2 [(.agg [(.int .u32 r5_0_0), (.int .u32 r5_0_1)])]⟩, (jb 6), (jb 7), (jb 8), (jb 9), (jb 10), (jb 11), (jb 12), (jb 13), (jb 14), (jb 15), (jb 16), (jb 17), (jb 18), (jb 19), (jb 20), (jb 21), (jb 22), (jb 23), (jb 24), (jb 25), (jb 26), (jb 27), (jb 28), (jb 29), (jb 30), (jb 31), (jb 32), (jb 33), (jb 34), (jb 35), (jb 36), (jb 37), (jb 38), (jb 39), (jb 40), (jb 41), (jb 42), (jb 43), (jb 44), (jb 45), (jb 46), (jb 47), (jb 48), (jb 49), (jb 50), (jb 51), (jb 52), (jb 53), (jb 54), (jb 55), (jb 56), (jb 57), (jb 58), (jb 59), (jb 60), (jb 61), (jb 62), (jb 63), (jb 64), (jb 65), (jb 66), (jb 67), (jb 68), (jb 69), (jb 70), (jb 71), (jb 72), (jb 73), (jb 74), (jb 75), (jb 76), (jb 77), (jb 78), (jb 79), (jb 80), (jb 81), (jb 82), (jb 83), (jb 84), (jb 85), (jb 86), (jb 87), (jb 88), (jb 89), (jb 90), (jb 91)]⟩
def ref44_Covered_l6 (x1 : List T_api_Prefix) (x6 : List Int) (x9 : Int) (x10 : Bool) (x11 : Int) (r5_0_0 : Int) (r5_0_1 : Int) (z : Bool) : Prop := ∀ j jb vs, W C F 28 0 (ref44_Covered_l6_s x1 x6 x9 x10 x11 r5_0_0 r5_0_1  j jb vs) (Ans C Tryz.f28 (.bool z))
noncomputable def ref44_Covered_l7_s (x1 : List T_api_Prefix) (x9 : Int) (x10 : Bool) (x11 : Int) (r5_0_0 : Int) (r5_0_1 : Int) (r40 : List Int) (n40 : Nat) (j : Nat → D) (jb : Nat → Blk) (vs : Nat → Nat) : Cf := cfAt Tryz.f28 [1, 1, 1, 1, 1, 0, 1, 0, 0, 1, 0, 0, 1, 1, 0, 1, 0] ⟨[(j 0), (.list 2 (x1.map E_api_Prefix)), (j 2), (j 3), (j 4), (.pref 5 1 0 0), (.sref 40 ((vs 40) + 1) 1 0 n40), (j 7), (j 8), (.int .i64 x9), (.bool x10), (.int .i64 x11), (j 12), (j 13), (j 14), (j 15), (j 16), (j 17), (j 18), (j 19), (j 20), (j 21), (j 22), (j 23), (j 24), (j 25), (j 26), (j 27), (j 28), (j 29), (j 30), (j 31), (j 32), (j 33), (j 34), (j 35), (j 36), (j 37), (j 38), (j 39), (j 40), (j 41), (j 42), (j 43), (j 44), (j 45), (j 46), (j 47), (j 48), (j 49), (j 50), (j 51), (j 52), (j 53), (j 54), (j 55), (j 56), (j 57), (j 58), (j 59), (j 60), (j 61), (j 62), (j 63), (j 64), (j 65), (j 66), (j 67), (j 68), (j 69), (j 70), (j 71), (j 72), (j 73), (j 74), (j 75), (j 76), (j 77), (j 78), (j 79), (j 80), (j 81), (j 82), (j 83), (j 84), (j 85), (j 86), (j 87), (j 88), (j 89), (j 90), (j 91)], [(jb 0), (jb 1), (jb 2), (jb 3), (jb 4), ⟨1, false, .rows 2 [(.agg [(.int .u32 r5_0_0), (.int .u32 r5_0_1)])]⟩, (jb 6), (jb 7), (jb 8), (jb 9), (jb 10), (jb 11), (jb 12), (jb 13), (jb 14), (jb 15), (jb 16), (jb 17), (jb 18), (jb 19), (jb 20), (jb 21), (jb 22), (jb 23), (jb 24), (jb 25), (jb 26), (jb 27), (jb 28), (jb 29), (jb 30), (jb 31), (jb 32), (jb 33), (jb 34), (jb 35), (jb 36), (jb 37), (jb 38), (jb 39), ⟨((vs 40) + 1), false, .ints .u32 r40⟩, (jb 41), (jb 42), (jb 43), (jb 44), (jb 45), (jb 46), (jb 47), (jb 48), (jb 49), (jb 50), (jb 51), (jb 52), (jb 53), (jb 54), (jb 55), (jb 56), (jb 57), (jb 58), (jb 59), (jb 60), (jb 61), (jb 62), (jb 63), (jb 64), (jb 65), (jb 66), (jb 67), (jb 68), (jb 69), (jb 70), (jb 71), (jb 72), (jb 73), (jb 74), (jb 75), (jb 76), (jb 77), (jb 78), (jb 79), (jb 80), (jb 81), (jb 82), (jb 83), (jb 84), (jb 85), (jb 86), (jb 87), (jb 88), (jb 89), (jb 90), (jb 91)]⟩
def ref44_Covered_l7 (x1 : List T_api_Prefix) (x9 : Int) (x10 : Bool) (x11 : Int) (r5_0_0 : Int) (r5_0_1 : Int) (r40 : List Int) (z : Bool) : Prop := ∀ n40, n40 = r40.length → ∀ j jb vs, W C F 28 0 (ref44_Covered_l7_s x1 x9 x10 x11 r5_0_0 r5_0_1 r40 n40 j jb vs) (Ans C Tryz.f28 (.bool z))
noncomputable def ref44_Covered_l8_s (x1 : List T_api_Prefix) (x9 : Int) (x10 : Bool) (x11 : Int) (r5_0_0 : Int) (r5_0_1 : Int) (r49 : List Int) (n49 : Nat) (j : Nat → D) (jb : Nat → Blk) (vs : Nat → Nat) : Cf := cfAt Tryz.f28 [1, 1, 1, 1, 1, 0, 1, 0, 0, 1, 0, 0, 1, 1, 0, 1, 0] ⟨[(j 0), (.list 2 (x1.map E_api_Prefix)), (j 2), (j 3), (j 4), (.pref 5 1 0 0), (.sref 49 ((vs 49) + 1) 1 0 n49), (j 7), (j 8), (.int .i64 x9), (.bool x10), (.int .i64 x11), (j 12), (j 13), (j 14), (j 15), (j 16), (j 17), (j 18), (j 19), (j 20), (j 21), (j 22), (j 23), (j 24), (j 25), (j 26), (j 27), (j 28), (j 29), (j 30), (j 31), (j 32), (j 33), (j 34), (j 35), (j 36), (j 37), (j 38), (j 39), (j 40), (j 41), (j 42), (j 43), (j 44), (j 45), (j 46), (j 47), (j 48), (j 49), (j 50), (j 51), (j 52), (j 53), (j 54), (j 55), (j 56), (j 57), (j 58), (j 59), (j 60), (j 61), (j 62), (j 63), (j 64), (j 65), (j 66), (j 67), (j 68), (j 69), (j 70), (j 71), (j 72), (j 73), (j 74), (j 75), (j 76), (j 77), (j 78), (j 79), (j 80), (j 81), (j 82), (j 83), (j 84), (j 85), (j 86), (j 87), (j 88), (j 89), (j 90), (j 91)], [(jb 0), (jb 1), (jb 2), (jb 3), (jb 4), ⟨1, false, .rows 2 [(.agg [(.int .u32 r5_0_0), (.int .u32 r5_0_1)])]⟩, (jb 6), (jb 7), (jb 8), (jb 9), (jb 10), (jb 11), (jb 12), (jb 13), (jb 14), (jb 15), (jb 16), (jb 17), (jb 18), (jb 19), (jb 20), (jb 21), (jb 22), (jb 23), (jb 24), (jb 25), (jb 26), (jb 27), (jb 28), (jb 29), (jb 30), (jb 31), (jb 32), (jb 33), (jb 34), (jb 35), (jb 36), (jb 37), (jb 38), (jb 39), (jb 40), (jb 41), (jb 42), (jb 43), (jb 44), (jb 45), (jb 46), (jb 47), (jb 48), ⟨((vs 49) + 1), false, .ints .u32 r49⟩, (jb 50), (jb 51), (jb 52), (jb 53), (jb 54), (jb 55), (jb 56), (jb 57), (jb 58), (jb 59), (jb 60), (jb 61), (jb 62), (jb 63), (jb 64), (jb 65), (jb 66), (jb 67), (jb 68), (jb 69), (jb 70), (jb 71), (jb 72), (jb 73), (jb 74), (jb 75), (jb 76), (jb 77), (jb 78), (jb 79), (jb 80), (jb 81), (jb 82), (jb 83), (jb 84), (jb 85), (jb 86), (jb 87), (jb 88), (jb 89), (jb 90), (jb 91)]⟩
def ref44_Covered_l8 (x1 : List T_api_Prefix) (x9 : Int) (x10 : Bool) (x11 : Int) (r5_0_0 : Int) (r5_0_1 : Int) (r49 : List Int) (z : Bool) : Prop := ∀ n49, n49 = r49.length → ∀ j jb vs, W C F 28 0 (ref44_Covered_l8_s x1 x9 x10 x11 r5_0_0 r5_0_1 r49 n49 j jb vs) (Ans C Tryz.f28 (.bool z))
theorem ref44_Covered_l0_go {x1 : List T_api_Prefix} {x6 : List Int} {x7 : Int} {r5_0_0 : Int} {r5_0_1 : Int} {z : Bool} (H : ((x7 < (x1.length : Int) ∧ (0 ≤ x7 ∧ (∃ e8 : Int, (∃ e9 : Int, (x1.getD (x7).toNat (0, 0) = (e8, e9) ∧ (∃ c11 : Bool, (ref18_May_R e8 e9 c11 ∧ ((c11 = true ∧ (∃ e14 : Int, (∃ e15 : Int, (x1.getD (x7).toNat (0, 0) = (e14, e15) ∧ (∃ c17_0 : Int, (∃ c17_1 : Int, (ref18_Range_R e14 e15 c17_0 c17_1 ∧ ((x6.length + 1 + 192) * (4 + 1) ≤ 70368744177664 ∧ (∃ y19, y19 = x6 ++ [c17_0] ∧ ((c17_1 = 4294967295 ∧ (ref44_Covered_l1 x1 (wi (x7 + 1)) r5_0_0 r5_0_1 y19 z)) ∨ (¬ c17_1 = 4294967295 ∧ ((y19.length + 1 + 192) * (4 + 1) ≤ 70368744177664 ∧ (∃ y24, y24 = y19 ++ [(IntKind.wrap .u32 (c17_1 + 1))] ∧ (ref44_Covered_l2 x1 (wi (x7 + 1)) r5_0_0 r5_0_1 y24 z)))))))))))))) ∨ (¬ c11 = true ∧ (ref44_Covered_l0 x1 x6 (wi (x7 + 1)) r5_0_0 r5_0_1 z)))))))))) ∨ (¬ x7 < (x1.length : Int) ∧ (ref44_Covered_l3 x1 x6 0 r5_0_0 r5_0_1 z)))) : ref44_Covered_l0 x1 x6 x7 r5_0_0 r5_0_1 z := by
  intro j jb vs
  refine W.adv 1 ?_
  refine W.adv 5 ?_
  refine W.opS (OpIs.ln (n := (x1.map E_api_Prefix).length) (m := x1.length) (by kernel_rfl) (by rw [List.length_map])) ?_
  refine W.adv 3 ?_
  rcases H with ⟨h6, H⟩ | ⟨h6, H⟩
  · refine W.cond true (w := (decide (x7 < (x1.length : Int)))) (by kernel_rfl) (decide_eq_true h6) ?_
    refine W.adv 8 ?_
    obtain ⟨h7, H⟩ := H
    obtain ⟨e8, e9, he10, H⟩ := H
    refine W.opS (OpIs.ixE (enc := E_api_Prefix) (n := 2) (k' := .i64) (L := x1) (i := x7) (d0 := (0, 0)) (x := (e8, e9)) (by kernel_rfl) h7 h6 he10) ?_
    refine W.adv 1 ?_
    obtain ⟨c11, hc12, H⟩ := H
    refine W.callR (g := 82) (ds := [(.agg [(.int .u32 e8), (.int .i64 e9)])]) (es := [(.agg [(.int .u32 e8), (.int .i64 e9)])]) (r := (.bool c11)) (by kernel_rfl) (by kernel_rfl) (Ic.args hc12 (by kernel_rfl)) (by kernel_rfl) ?_
    refine W.adv 2 ?_
    rcases H with ⟨h13, H⟩ | ⟨h13, H⟩
    · refine W.cond true (w := c11) (by kernel_rfl) h13 ?_
      refine W.adv 4 ?_
      obtain ⟨e14, e15, he16, H⟩ := H
      refine W.opS (OpIs.ixE (enc := E_api_Prefix) (n := 2) (k' := .i64) (L := x1) (i := x7) (d0 := (0, 0)) (x := (e14, e15)) (by kernel_rfl) h7 h6 he16) ?_
      refine W.adv 1 ?_
      obtain ⟨c17_0, c17_1, hc18, H⟩ := H
      refine W.callR (g := 83) (ds := [(.agg [(.int .u32 e14), (.int .i64 e15)])]) (es := [(.agg [(.int .u32 e14), (.int .i64 e15)])]) (r := (.agg [(.int .u32 c17_0), (.int .u32 c17_1)])) (by kernel_rfl) (by kernel_rfl) (Ic.args hc18 (by kernel_rfl)) (by kernel_rfl) ?_
      refine W.adv 1 ?_
      refine W.opH (OpIs.stV (b := 8) (v := ((jb 8).ver + 1)) (i := 0) (off := 0) (w := ((jb 8).ver + 1)) (n := 2) (s := 2) (xs := [(.agg [(.int .u32 0), (.int .u32 0)])]) (ys := [(.agg [(.int .u32 c17_0), (.int .u32 c17_1)])]) (d := (.agg [(.int .u32 0), (.int .u32 0)])) (y := (.agg [(.int .u32 c17_0), (.int .u32 c17_1)])) (by kernel_rfl) rfl (by kernel_rfl) (by kernel_rfl) (Nat.le_of_ble_eq_true (by kernel_rfl)) (by kernel_rfl) (by kernel_rfl)) ?_
      refine W.adv 6 ?_
      refine W.opS (OpIs.ldV (b := 8) (v := ((jb 8).ver + 1)) (i := 0) (off := 0) (w := ((jb 8).ver + 1)) (n := 2) (s := 1) (fz := false) (a := false) (xs := [(.agg [(.int .u32 c17_0), (.int .u32 c17_1)])]) (r := (.int .u32 c17_0)) (by kernel_rfl) rfl (by kernel_rfl)) ?_
      refine W.adv 1 ?_
      obtain ⟨h22, H⟩ := H
      obtain ⟨y19, hy20, H⟩ := H
      have ln21 : (x6.length + 1) = y19.length := by rw [hy20, List.length_append] <;> rfl
      refine W.opH (OpIs.apLit (y := (.lit (.ints .u32 [c17_0]))) (B := none) (n := 4) (d := 40) (dv := (jb 40).ver) (k := .u32) (xs := x6) (ys := [c17_0]) (by kernel_rfl) (by kernel_rfl) hy20 h22 (by simp)) ?_
      refine W.adv 6 ?_
      refine W.opS (OpIs.ldV (b := 8) (v := ((jb 8).ver + 1)) (i := 0) (off := 1) (w := ((jb 8).ver + 1)) (n := 2) (s := 1) (fz := false) (a := false) (xs := [(.agg [(.int .u32 c17_0), (.int .u32 c17_1)])]) (r := (.int .u32 c17_1)) (by kernel_rfl) rfl (by kernel_rfl)) ?_
      refine W.adv 3 ?_
      rcases H with ⟨h23, H⟩ | ⟨h23, H⟩
      · refine W.cond false (w := (!(decide (c17_1 = 4294967295)))) (by kernel_rfl) (congrArg (fun b => !b) (decide_eq_true h23)) ?_
        refine W.adv 9 ?_
        exact W.to_loop (P := ref44_Covered_l1_s x1 (wi (x7 + 1)) r5_0_0 r5_0_1 y19 (x6.length + 1)) (H _ ln21) (by kernel_rfl)
      · refine W.cond true (w := (!(decide (c17_1 = 4294967295)))) (by kernel_rfl) (congrArg (fun b => !b) (decide_eq_false h23)) ?_
        refine W.adv 3 ?_
        refine W.opS (OpIs.ldV (b := 8) (v := ((jb 8).ver + 1)) (i := 0) (off := 1) (w := ((jb 8).ver + 1)) (n := 2) (s := 1) (fz := false) (a := false) (xs := [(.agg [(.int .u32 c17_0), (.int .u32 c17_1)])]) (r := (.int .u32 c17_1)) (by kernel_rfl) rfl (by kernel_rfl)) ?_
        refine W.adv 2 ?_
        obtain ⟨h27, H⟩ := H
        obtain ⟨y24, hy25, H⟩ := H
        have ln26 : (y19.length + 1) = y24.length := by rw [hy25, List.length_append] <;> rfl
        refine W.opK (OpIs.apRow (y := (.lit (.ints .u32 [(IntKind.wrap .u32 (c17_1 + 1))]))) (n := 4) (d := 49) (dv := (jb 49).ver) (b := 40) (v := ((jb 40).ver + 1)) (w := ((jb 40).ver + 1)) (len := (x6.length + 1)) (k := .u32) (xs := y19) (ys := [(IntKind.wrap .u32 (c17_1 + 1))]) (by kernel_rfl) (by kernel_rfl) hy25 rfl ln21 h27) ?_
        refine W.adv 10 ?_
        exact W.to_loop (P := ref44_Covered_l2_s x1 (wi (x7 + 1)) r5_0_0 r5_0_1 y24 (y19.length + 1)) (H _ ln26) (by kernel_rfl)
    · refine W.cond false (w := c11) (by kernel_rfl) (bfalse h13) ?_
      refine W.adv 9 ?_
      exact W.to_loop (P := ref44_Covered_l0_s x1 x6 (wi (x7 + 1)) r5_0_0 r5_0_1) (H ) (by kernel_rfl)
  · refine W.cond false (w := (decide (x7 < (x1.length : Int)))) (by kernel_rfl) (decide_eq_false h6) ?_
    refine W.adv 12 ?_
    exact W.to_loop (P := ref44_Covered_l3_s x1 x6 0 r5_0_0 r5_0_1) (H ) (by kernel_rfl)
theorem ref44_Covered_l1_go {x1 : List T_api_Prefix} {x7 : Int} {r5_0_0 : Int} {r5_0_1 : Int} {r40 : List Int} {z : Bool} (H : ((x7 < (x1.length : Int) ∧ (0 ≤ x7 ∧ (∃ e30 : Int, (∃ e31 : Int, (x1.getD (x7).toNat (0, 0) = (e30, e31) ∧ (∃ c33 : Bool, (ref18_May_R e30 e31 c33 ∧ ((c33 = true ∧ (∃ e36 : Int, (∃ e37 : Int, (x1.getD (x7).toNat (0, 0) = (e36, e37) ∧ (∃ c39_0 : Int, (∃ c39_1 : Int, (ref18_Range_R e36 e37 c39_0 c39_1 ∧ ((r40.length + 1 + 192) * (4 + 1) ≤ 70368744177664 ∧ (∃ y41, y41 = r40 ++ [c39_0] ∧ ((c39_1 = 4294967295 ∧ (ref44_Covered_l1 x1 (wi (x7 + 1)) r5_0_0 r5_0_1 y41 z)) ∨ (¬ c39_1 = 4294967295 ∧ ((y41.length + 1 + 192) * (4 + 1) ≤ 70368744177664 ∧ (∃ y46, y46 = y41 ++ [(IntKind.wrap .u32 (c39_1 + 1))] ∧ (ref44_Covered_l2 x1 (wi (x7 + 1)) r5_0_0 r5_0_1 y46 z)))))))))))))) ∨ (¬ c33 = true ∧ (ref44_Covered_l1 x1 (wi (x7 + 1)) r5_0_0 r5_0_1 r40 z)))))))))) ∨ (¬ x7 < (x1.length : Int) ∧ (ref44_Covered_l4 x1 0 r5_0_0 r5_0_1 r40 z)))) : ref44_Covered_l1 x1 x7 r5_0_0 r5_0_1 r40 z := by
  intro n40 ln_40 j jb vs
  refine W.adv 1 ?_
  refine W.adv 5 ?_
  refine W.opS (OpIs.ln (n := (x1.map E_api_Prefix).length) (m := x1.length) (by kernel_rfl) (by rw [List.length_map])) ?_
  refine W.adv 3 ?_
  rcases H with ⟨h28, H⟩ | ⟨h28, H⟩
  · refine W.cond true (w := (decide (x7 < (x1.length : Int)))) (by kernel_rfl) (decide_eq_true h28) ?_
    refine W.adv 8 ?_
    obtain ⟨h29, H⟩ := H
    obtain ⟨e30, e31, he32, H⟩ := H
    refine W.opS (OpIs.ixE (enc := E_api_Prefix) (n := 2) (k' := .i64) (L := x1) (i := x7) (d0 := (0, 0)) (x := (e30, e31)) (by kernel_rfl) h29 h28 he32) ?_
    refine W.adv 1 ?_
    obtain ⟨c33, hc34, H⟩ := H
    refine W.callR (g := 82) (ds := [(.agg [(.int .u32 e30), (.int .i64 e31)])]) (es := [(.agg [(.int .u32 e30), (.int .i64 e31)])]) (r := (.bool c33)) (by kernel_rfl) (by kernel_rfl) (Ic.args hc34 (by kernel_rfl)) (by kernel_rfl) ?_
    refine W.adv 2 ?_
    rcases H with ⟨h35, H⟩ | ⟨h35, H⟩
    · refine W.cond true (w := c33) (by kernel_rfl) h35 ?_
      refine W.adv 4 ?_
      obtain ⟨e36, e37, he38, H⟩ := H
      refine W.opS (OpIs.ixE (enc := E_api_Prefix) (n := 2) (k' := .i64) (L := x1) (i := x7) (d0 := (0, 0)) (x := (e36, e37)) (by kernel_rfl) h29 h28 he38) ?_
      refine W.adv 1 ?_
      obtain ⟨c39_0, c39_1, hc40, H⟩ := H
      refine W.callR (g := 83) (ds := [(.agg [(.int .u32 e36), (.int .i64 e37)])]) (es := [(.agg [(.int .u32 e36), (.int .i64 e37)])]) (r := (.agg [(.int .u32 c39_0), (.int .u32 c39_1)])) (by kernel_rfl) (by kernel_rfl) (Ic.args hc40 (by kernel_rfl)) (by kernel_rfl) ?_
      refine W.adv 1 ?_
      refine W.opH (OpIs.stV (b := 8) (v := ((jb 8).ver + 1)) (i := 0) (off := 0) (w := ((jb 8).ver + 1)) (n := 2) (s := 2) (xs := [(.agg [(.int .u32 0), (.int .u32 0)])]) (ys := [(.agg [(.int .u32 c39_0), (.int .u32 c39_1)])]) (d := (.agg [(.int .u32 0), (.int .u32 0)])) (y := (.agg [(.int .u32 c39_0), (.int .u32 c39_1)])) (by kernel_rfl) rfl (by kernel_rfl) (by kernel_rfl) (Nat.le_of_ble_eq_true (by kernel_rfl)) (by kernel_rfl) (by kernel_rfl)) ?_
      refine W.adv 6 ?_
      refine W.opS (OpIs.ldV (b := 8) (v := ((jb 8).ver + 1)) (i := 0) (off := 0) (w := ((jb 8).ver + 1)) (n := 2) (s := 1) (fz := false) (a := false) (xs := [(.agg [(.int .u32 c39_0), (.int .u32 c39_1)])]) (r := (.int .u32 c39_0)) (by kernel_rfl) rfl (by kernel_rfl)) ?_
      refine W.adv 1 ?_
      obtain ⟨h44, H⟩ := H
      obtain ⟨y41, hy42, H⟩ := H
      have ln43 : (r40.length + 1) = y41.length := by rw [hy42, List.length_append] <;> rfl
      refine W.opK (OpIs.apRow (y := (.lit (.ints .u32 [c39_0]))) (n := 4) (d := 40) (dv := ((vs 40) + 1)) (b := 40) (v := ((vs 40) + 1)) (w := ((vs 40) + 1)) (len := n40) (k := .u32) (xs := r40) (ys := [c39_0]) (by kernel_rfl) (by kernel_rfl) hy42 rfl ln_40 h44) ?_
      refine W.adv 6 ?_
      refine W.opS (OpIs.ldV (b := 8) (v := ((jb 8).ver + 1)) (i := 0) (off := 1) (w := ((jb 8).ver + 1)) (n := 2) (s := 1) (fz := false) (a := false) (xs := [(.agg [(.int .u32 c39_0), (.int .u32 c39_1)])]) (r := (.int .u32 c39_1)) (by kernel_rfl) rfl (by kernel_rfl)) ?_
      refine W.adv 3 ?_
      rcases H with ⟨h45, H⟩ | ⟨h45, H⟩
      · refine W.cond false (w := (!(decide (c39_1 = 4294967295)))) (by kernel_rfl) (congrArg (fun b => !b) (decide_eq_true h45)) ?_
        refine W.adv 9 ?_
        exact W.to_loop (P := ref44_Covered_l1_s x1 (wi (x7 + 1)) r5_0_0 r5_0_1 y41 (r40.length + 1)) (H _ ln43) (by kernel_rfl)
      · refine W.cond true (w := (!(decide (c39_1 = 4294967295)))) (by kernel_rfl) (congrArg (fun b => !b) (decide_eq_false h45)) ?_
        refine W.adv 3 ?_
        refine W.opS (OpIs.ldV (b := 8) (v := ((jb 8).ver + 1)) (i := 0) (off := 1) (w := ((jb 8).ver + 1)) (n := 2) (s := 1) (fz := false) (a := false) (xs := [(.agg [(.int .u32 c39_0), (.int .u32 c39_1)])]) (r := (.int .u32 c39_1)) (by kernel_rfl) rfl (by kernel_rfl)) ?_
        refine W.adv 2 ?_
        obtain ⟨h49, H⟩ := H
        obtain ⟨y46, hy47, H⟩ := H
        have ln48 : (y41.length + 1) = y46.length := by rw [hy47, List.length_append] <;> rfl
        refine W.opK (OpIs.apRow (y := (.lit (.ints .u32 [(IntKind.wrap .u32 (c39_1 + 1))]))) (n := 4) (d := 49) (dv := (jb 49).ver) (b := 40) (v := (((vs 40) + 1) + 1)) (w := (((vs 40) + 1) + 1)) (len := (r40.length + 1)) (k := .u32) (xs := y41) (ys := [(IntKind.wrap .u32 (c39_1 + 1))]) (by kernel_rfl) (by kernel_rfl) hy47 rfl ln43 h49) ?_
        refine W.adv 10 ?_
        exact W.to_loop (P := ref44_Covered_l2_s x1 (wi (x7 + 1)) r5_0_0 r5_0_1 y46 (y41.length + 1)) (H _ ln48) (by kernel_rfl)
    · refine W.cond false (w := c33) (by kernel_rfl) (bfalse h35) ?_
      refine W.adv 9 ?_
      exact W.to_loop (P := ref44_Covered_l1_s x1 (wi (x7 + 1)) r5_0_0 r5_0_1 r40 n40) (H _ ln_40) (by kernel_rfl)
  · refine W.cond false (w := (decide (x7 < (x1.length : Int)))) (by kernel_rfl) (decide_eq_false h28) ?_
    refine W.adv 12 ?_
    exact W.to_loop (P := ref44_Covered_l4_s x1 0 r5_0_0 r5_0_1 r40 n40) (H _ ln_40) (by kernel_rfl)
theorem ref44_Covered_l2_go {x1 : List T_api_Prefix} {x7 : Int} {r5_0_0 : Int} {r5_0_1 : Int} {r49 : List Int} {z : Bool} (H : ((x7 < (x1.length : Int) ∧ (0 ≤ x7 ∧ (∃ e52 : Int, (∃ e53 : Int, (x1.getD (x7).toNat (0, 0) = (e52, e53) ∧ (∃ c55 : Bool, (ref18_May_R e52 e53 c55 ∧ ((c55 = true ∧ (∃ e58 : Int, (∃ e59 : Int, (x1.getD (x7).toNat (0, 0) = (e58, e59) ∧ (∃ c61_0 : Int, (∃ c61_1 : Int, (ref18_Range_R e58 e59 c61_0 c61_1 ∧ ((r49.length + 1 + 192) * (4 + 1) ≤ 70368744177664 ∧ (∃ y63, y63 = r49 ++ [c61_0] ∧ ((c61_1 = 4294967295 ∧ (ref44_Covered_l1 x1 (wi (x7 + 1)) r5_0_0 r5_0_1 y63 z)) ∨ (¬ c61_1 = 4294967295 ∧ ((y63.length + 1 + 192) * (4 + 1) ≤ 70368744177664 ∧ (∃ y68, y68 = y63 ++ [(IntKind.wrap .u32 (c61_1 + 1))] ∧ (ref44_Covered_l2 x1 (wi (x7 + 1)) r5_0_0 r5_0_1 y68 z)))))))))))))) ∨ (¬ c55 = true ∧ (ref44_Covered_l2 x1 (wi (x7 + 1)) r5_0_0 r5_0_1 r49 z)))))))))) ∨ (¬ x7 < (x1.length : Int) ∧ (ref44_Covered_l5 x1 0 r5_0_0 r5_0_1 r49 z)))) : ref44_Covered_l2 x1 x7 r5_0_0 r5_0_1 r49 z := by
  intro n49 ln_49 j jb vs
  refine W.adv 1 ?_
  refine W.adv 5 ?_
  refine W.opS (OpIs.ln (n := (x1.map E_api_Prefix).length) (m := x1.length) (by kernel_rfl) (by rw [List.length_map])) ?_
  refine W.adv 3 ?_
  rcases H with ⟨h50, H⟩ | ⟨h50, H⟩
  · refine W.cond true (w := (decide (x7 < (x1.length : Int)))) (by kernel_rfl) (decide_eq_true h50) ?_
    refine W.adv 8 ?_
    obtain ⟨h51, H⟩ := H
    obtain ⟨e52, e53, he54, H⟩ := H
    refine W.opS (OpIs.ixE (enc := E_api_Prefix) (n := 2) (k' := .i64) (L := x1) (i := x7) (d0 := (0, 0)) (x := (e52, e53)) (by kernel_rfl) h51 h50 he54) ?_
    refine W.adv 1 ?_
    obtain ⟨c55, hc56, H⟩ := H
    refine W.callR (g := 82) (ds := [(.agg [(.int .u32 e52), (.int .i64 e53)])]) (es := [(.agg [(.int .u32 e52), (.int .i64 e53)])]) (r := (.bool c55)) (by kernel_rfl) (by kernel_rfl) (Ic.args hc56 (by kernel_rfl)) (by kernel_rfl) ?_
    refine W.adv 2 ?_
    rcases H with ⟨h57, H⟩ | ⟨h57, H⟩
    · refine W.cond true (w := c55) (by kernel_rfl) h57 ?_
      refine W.adv 4 ?_
      obtain ⟨e58, e59, he60, H⟩ := H
      refine W.opS (OpIs.ixE (enc := E_api_Prefix) (n := 2) (k' := .i64) (L := x1) (i := x7) (d0 := (0, 0)) (x := (e58, e59)) (by kernel_rfl) h51 h50 he60) ?_
      refine W.adv 1 ?_
      obtain ⟨c61_0, c61_1, hc62, H⟩ := H
      refine W.callR (g := 83) (ds := [(.agg [(.int .u32 e58), (.int .i64 e59)])]) (es := [(.agg [(.int .u32 e58), (.int .i64 e59)])]) (r := (.agg [(.int .u32 c61_0), (.int .u32 c61_1)])) (by kernel_rfl) (by kernel_rfl) (Ic.args hc62 (by kernel_rfl)) (by kernel_rfl) ?_
      refine W.adv 1 ?_
      refine W.opH (OpIs.stV (b := 8) (v := ((jb 8).ver + 1)) (i := 0) (off := 0) (w := ((jb 8).ver + 1)) (n := 2) (s := 2) (xs := [(.agg [(.int .u32 0), (.int .u32 0)])]) (ys := [(.agg [(.int .u32 c61_0), (.int .u32 c61_1)])]) (d := (.agg [(.int .u32 0), (.int .u32 0)])) (y := (.agg [(.int .u32 c61_0), (.int .u32 c61_1)])) (by kernel_rfl) rfl (by kernel_rfl) (by kernel_rfl) (Nat.le_of_ble_eq_true (by kernel_rfl)) (by kernel_rfl) (by kernel_rfl)) ?_
      refine W.adv 6 ?_
      refine W.opS (OpIs.ldV (b := 8) (v := ((jb 8).ver + 1)) (i := 0) (off := 0) (w := ((jb 8).ver + 1)) (n := 2) (s := 1) (fz := false) (a := false) (xs := [(.agg [(.int .u32 c61_0), (.int .u32 c61_1)])]) (r := (.int .u32 c61_0)) (by kernel_rfl) rfl (by kernel_rfl)) ?_
      refine W.adv 1 ?_
      obtain ⟨h66, H⟩ := H
      obtain ⟨y63, hy64, H⟩ := H
      have ln65 : (r49.length + 1) = y63.length := by rw [hy64, List.length_append] <;> rfl
      refine W.opK (OpIs.apRow (y := (.lit (.ints .u32 [c61_0]))) (n := 4) (d := 40) (dv := (jb 40).ver) (b := 49) (v := ((vs 49) + 1)) (w := ((vs 49) + 1)) (len := n49) (k := .u32) (xs := r49) (ys := [c61_0]) (by kernel_rfl) (by kernel_rfl) hy64 rfl ln_49 h66) ?_
      refine W.adv 6 ?_
      refine W.opS (OpIs.ldV (b := 8) (v := ((jb 8).ver + 1)) (i := 0) (off := 1) (w := ((jb 8).ver + 1)) (n := 2) (s := 1) (fz := false) (a := false) (xs := [(.agg [(.int .u32 c61_0), (.int .u32 c61_1)])]) (r := (.int .u32 c61_1)) (by kernel_rfl) rfl (by kernel_rfl)) ?_
      refine W.adv 3 ?_
      rcases H with ⟨h67, H⟩ | ⟨h67, H⟩
      · refine W.cond false (w := (!(decide (c61_1 = 4294967295)))) (by kernel_rfl) (congrArg (fun b => !b) (decide_eq_true h67)) ?_
        refine W.adv 9 ?_
        exact W.to_loop (P := ref44_Covered_l1_s x1 (wi (x7 + 1)) r5_0_0 r5_0_1 y63 (r49.length + 1)) (H _ ln65) (by kernel_rfl)
      · refine W.cond true (w := (!(decide (c61_1 = 4294967295)))) (by kernel_rfl) (congrArg (fun b => !b) (decide_eq_false h67)) ?_
        refine W.adv 3 ?_
        refine W.opS (OpIs.ldV (b := 8) (v := ((jb 8).ver + 1)) (i := 0) (off := 1) (w := ((jb 8).ver + 1)) (n := 2) (s := 1) (fz := false) (a := false) (xs := [(.agg [(.int .u32 c61_0), (.int .u32 c61_1)])]) (r := (.int .u32 c61_1)) (by kernel_rfl) rfl (by kernel_rfl)) ?_
        refine W.adv 2 ?_
        obtain ⟨h71, H⟩ := H
        obtain ⟨y68, hy69, H⟩ := H
        have ln70 : (y63.length + 1) = y68.length := by rw [hy69, List.length_append] <;> rfl
        refine W.opK (OpIs.apRow (y := (.lit (.ints .u32 [(IntKind.wrap .u32 (c61_1 + 1))]))) (n := 4) (d := 49) (dv := ((vs 49) + 1)) (b := 40) (v := ((jb 40).ver + 1)) (w := ((jb 40).ver + 1)) (len := (r49.length + 1)) (k := .u32) (xs := y63) (ys := [(IntKind.wrap .u32 (c61_1 + 1))]) (by kernel_rfl) (by kernel_rfl) hy69 rfl ln65 h71) ?_
        refine W.adv 10 ?_
        exact W.to_loop (P := ref44_Covered_l2_s x1 (wi (x7 + 1)) r5_0_0 r5_0_1 y68 (y63.length + 1)) (H _ ln70) (by kernel_rfl)
    · refine W.cond false (w := c55) (by kernel_rfl) (bfalse h57) ?_
      refine W.adv 9 ?_
      exact W.to_loop (P := ref44_Covered_l2_s x1 (wi (x7 + 1)) r5_0_0 r5_0_1 r49 n49) (H _ ln_49) (by kernel_rfl)
  · refine W.cond false (w := (decide (x7 < (x1.length : Int)))) (by kernel_rfl) (decide_eq_false h50) ?_
    refine W.adv 12 ?_
    exact W.to_loop (P := ref44_Covered_l5_s x1 0 r5_0_0 r5_0_1 r49 n49) (H _ ln_49) (by kernel_rfl)
theorem ref44_Covered_l3_go {x1 : List T_api_Prefix} {x6 : List Int} {x9 : Int} {r5_0_0 : Int} {r5_0_1 : Int} {z : Bool} (H : ((x9 < (x6.length : Int) ∧ (0 ≤ x9 ∧ (((x6.getD (x9).toNat 0) < r5_0_0 ∧ (ref44_Covered_l3 x1 x6 (wi (x9 + 1)) r5_0_0 r5_0_1 z)) ∨ (¬ (x6.getD (x9).toNat 0) < r5_0_0 ∧ ((r5_0_1 < (x6.getD (x9).toNat 0) ∧ (ref44_Covered_l3 x1 x6 (wi (x9 + 1)) r5_0_0 r5_0_1 z)) ∨ (¬ r5_0_1 < (x6.getD (x9).toNat 0) ∧ (ref44_Covered_l6 x1 x6 x9 false 0 r5_0_0 r5_0_1 z))))))) ∨ (¬ x9 < (x6.length : Int) ∧ (z = true)))) : ref44_Covered_l3 x1 x6 x9 r5_0_0 r5_0_1 z := by
  intro j jb vs
  refine W.adv 1 ?_
  refine W.adv 9 ?_
  rcases H with ⟨h72, H⟩ | ⟨h72, H⟩
  · refine W.cond true (w := (decide (x9 < (x6.length : Int)))) (by kernel_rfl) (decide_eq_true h72) ?_
    refine W.adv 9 ?_
    obtain ⟨h73, H⟩ := H
    refine W.opS (OpIs.ixI (k := .u32) (k' := .i64) (xs := x6) (i := x9) (by kernel_rfl) h73 h72) ?_
    refine W.adv 5 ?_
    rcases H with ⟨h74, H⟩ | ⟨h74, H⟩
    · refine W.guard false (w := ((decide ((x6.getD (x9).toNat 0) < r5_0_0)) == false)) (by kernel_rfl) (congrArg (fun b => b == false) (decide_eq_true h74)) ?_
      refine W.guard false (w := ((decide ((x6.getD (x9).toNat 0) < r5_0_0)) == false)) (by kernel_rfl) (congrArg (fun b => b == false) (decide_eq_true h74)) ?_
      refine W.guard false (w := ((decide ((x6.getD (x9).toNat 0) < r5_0_0)) == false)) (by kernel_rfl) (congrArg (fun b => b == false) (decide_eq_true h74)) ?_
      refine W.guard false (w := ((decide ((x6.getD (x9).toNat 0) < r5_0_0)) == false)) (by kernel_rfl) (congrArg (fun b => b == false) (decide_eq_true h74)) ?_
      refine W.guard false (w := ((decide ((x6.getD (x9).toNat 0) < r5_0_0)) == false)) (by kernel_rfl) (congrArg (fun b => b == false) (decide_eq_true h74)) ?_
      refine W.guard false (w := ((decide ((x6.getD (x9).toNat 0) < r5_0_0)) == false)) (by kernel_rfl) (congrArg (fun b => b == false) (decide_eq_true h74)) ?_
      refine W.guard false (w := ((decide ((x6.getD (x9).toNat 0) < r5_0_0)) == false)) (by kernel_rfl) (congrArg (fun b => b == false) (decide_eq_true h74)) ?_
      refine W.opS (OpIs.pk true (t := (decide ((x6.getD (x9).toNat 0) < r5_0_0))) (x := (.bool true)) (y := (.tuple [])) (by kernel_rfl) (decide_eq_true h74)) ?_
      refine W.adv 13 ?_
      exact W.to_loop (P := ref44_Covered_l3_s x1 x6 (wi (x9 + 1)) r5_0_0 r5_0_1) (H ) (by kernel_rfl)
    · refine W.guard true (w := ((decide ((x6.getD (x9).toNat 0) < r5_0_0)) == false)) (by kernel_rfl) (congrArg (fun b => b == false) (decide_eq_false h74)) ?_
      refine W.adv 1 ?_
      refine W.guard true (w := ((decide ((x6.getD (x9).toNat 0) < r5_0_0)) == false)) (by kernel_rfl) (congrArg (fun b => b == false) (decide_eq_false h74)) ?_
      refine W.adv 1 ?_
      refine W.guard true (w := ((decide ((x6.getD (x9).toNat 0) < r5_0_0)) == false)) (by kernel_rfl) (congrArg (fun b => b == false) (decide_eq_false h74)) ?_
      refine W.opS (OpIs.ixI (k := .u32) (k' := .i64) (xs := x6) (i := x9) (by kernel_rfl) h73 h72) ?_
      refine W.guard true (w := ((decide ((x6.getD (x9).toNat 0) < r5_0_0)) == false)) (by kernel_rfl) (congrArg (fun b => b == false) (decide_eq_false h74)) ?_
      refine W.adv 1 ?_
      refine W.guard true (w := ((decide ((x6.getD (x9).toNat 0) < r5_0_0)) == false)) (by kernel_rfl) (congrArg (fun b => b == false) (decide_eq_false h74)) ?_
      refine W.adv 1 ?_
      refine W.guard true (w := ((decide ((x6.getD (x9).toNat 0) < r5_0_0)) == false)) (by kernel_rfl) (congrArg (fun b => b == false) (decide_eq_false h74)) ?_
      refine W.adv 1 ?_
      refine W.guard true (w := ((decide ((x6.getD (x9).toNat 0) < r5_0_0)) == false)) (by kernel_rfl) (congrArg (fun b => b == false) (decide_eq_false h74)) ?_
      refine W.adv 1 ?_
      refine W.opS (OpIs.pk false (t := (decide ((x6.getD (x9).toNat 0) < r5_0_0))) (x := (.bool true)) (y := (.bool (decide (r5_0_1 < (x6.getD (x9).toNat 0))))) (by kernel_rfl) (decide_eq_false h74)) ?_
      refine W.adv 2 ?_
      rcases H with ⟨h75, H⟩ | ⟨h75, H⟩
      · refine W.cond true (w := (decide (r5_0_1 < (x6.getD (x9).toNat 0)))) (by kernel_rfl) (decide_eq_true h75) ?_
        refine W.adv 10 ?_
        exact W.to_loop (P := ref44_Covered_l3_s x1 x6 (wi (x9 + 1)) r5_0_0 r5_0_1) (H ) (by kernel_rfl)
      · refine W.cond false (w := (decide (r5_0_1 < (x6.getD (x9).toNat 0)))) (by kernel_rfl) (decide_eq_false h75) ?_
        refine W.adv 14 ?_
        exact W.to_loop (P := ref44_Covered_l6_s x1 x6 x9 false 0 r5_0_0 r5_0_1) (H ) (by kernel_rfl)
  · refine W.cond false (w := (decide (x9 < (x6.length : Int)))) (by kernel_rfl) (decide_eq_false h72) ?_
    refine W.adv 11 ?_
    exact W.fin (x := .ret) (by kernel_rfl) (Ans.of (d := (.bool true)) (d' := (.bool true)) (e' := (.bool true)) (by kernel_rfl) (by kernel_rfl) (by kernel_rfl) (by rw [H]))
theorem ref44_Covered_l4_go {x1 : List T_api_Prefix} {x9 : Int} {r5_0_0 : Int} {r5_0_1 : Int} {r40 : List Int} {z : Bool} (H : ((x9 < (r40.length : Int) ∧ (0 ≤ x9 ∧ (((r40.getD (x9).toNat 0) < r5_0_0 ∧ (ref44_Covered_l4 x1 (wi (x9 + 1)) r5_0_0 r5_0_1 r40 z)) ∨ (¬ (r40.getD (x9).toNat 0) < r5_0_0 ∧ ((r5_0_1 < (r40.getD (x9).toNat 0) ∧ (ref44_Covered_l4 x1 (wi (x9 + 1)) r5_0_0 r5_0_1 r40 z)) ∨ (¬ r5_0_1 < (r40.getD (x9).toNat 0) ∧ (ref44_Covered_l7 x1 x9 false 0 r5_0_0 r5_0_1 r40 z))))))) ∨ (¬ x9 < (r40.length : Int) ∧ (z = true)))) : ref44_Covered_l4 x1 x9 r5_0_0 r5_0_1 r40 z := by
  intro n40 ln_40 j jb vs
  refine W.adv 1 ?_
  refine W.adv 5 ?_
  refine W.opS (OpIs.ln (n := n40) (m := r40.length) (by kernel_rfl) ln_40) ?_
  refine W.adv 3 ?_
  rcases H with ⟨h76, H⟩ | ⟨h76, H⟩
  · refine W.cond true (w := (decide (x9 < (r40.length : Int)))) (by kernel_rfl) (decide_eq_true h76) ?_
    refine W.adv 9 ?_
    obtain ⟨h77, H⟩ := H
    refine W.opS (OpIs.ixR (k' := .i64) (b := 40) (v := ((vs 40) + 1)) (sz := 1) (len := n40) (i := x9) (by kernel_rfl) h77 (by rw [ln_40]; exact h76)) ?_
    refine W.opS (OpIs.ldI (b := 40) (v := ((vs 40) + 1)) (i := (x9).toNat) (w := ((vs 40) + 1)) (fz := false) (k := .u32) (xs := r40) (by kernel_rfl) rfl (by omega)) ?_
    refine W.adv 4 ?_
    rcases H with ⟨h78, H⟩ | ⟨h78, H⟩
    · refine W.guard false (w := ((decide ((r40.getD (x9).toNat 0) < r5_0_0)) == false)) (by kernel_rfl) (congrArg (fun b => b == false) (decide_eq_true h78)) ?_
      refine W.guard false (w := ((decide ((r40.getD (x9).toNat 0) < r5_0_0)) == false)) (by kernel_rfl) (congrArg (fun b => b == false) (decide_eq_true h78)) ?_
      refine W.guard false (w := ((decide ((r40.getD (x9).toNat 0) < r5_0_0)) == false)) (by kernel_rfl) (congrArg (fun b => b == false) (decide_eq_true h78)) ?_
      refine W.guard false (w := ((decide ((r40.getD (x9).toNat 0) < r5_0_0)) == false)) (by kernel_rfl) (congrArg (fun b => b == false) (decide_eq_true h78)) ?_
      refine W.guard false (w := ((decide ((r40.getD (x9).toNat 0) < r5_0_0)) == false)) (by kernel_rfl) (congrArg (fun b => b == false) (decide_eq_true h78)) ?_
      refine W.guard false (w := ((decide ((r40.getD (x9).toNat 0) < r5_0_0)) == false)) (by kernel_rfl) (congrArg (fun b => b == false) (decide_eq_true h78)) ?_
      refine W.guard false (w := ((decide ((r40.getD (x9).toNat 0) < r5_0_0)) == false)) (by kernel_rfl) (congrArg (fun b => b == false) (decide_eq_true h78)) ?_
      refine W.opS (OpIs.pk true (t := (decide ((r40.getD (x9).toNat 0) < r5_0_0))) (x := (.bool true)) (y := (.tuple [])) (by kernel_rfl) (decide_eq_true h78)) ?_
      refine W.adv 13 ?_
      exact W.to_loop (P := ref44_Covered_l4_s x1 (wi (x9 + 1)) r5_0_0 r5_0_1 r40 n40) (H _ ln_40) (by kernel_rfl)
    · refine W.guard true (w := ((decide ((r40.getD (x9).toNat 0) < r5_0_0)) == false)) (by kernel_rfl) (congrArg (fun b => b == false) (decide_eq_false h78)) ?_
      refine W.adv 1 ?_
      refine W.guard true (w := ((decide ((r40.getD (x9).toNat 0) < r5_0_0)) == false)) (by kernel_rfl) (congrArg (fun b => b == false) (decide_eq_false h78)) ?_
      refine W.adv 1 ?_
      refine W.guard true (w := ((decide ((r40.getD (x9).toNat 0) < r5_0_0)) == false)) (by kernel_rfl) (congrArg (fun b => b == false) (decide_eq_false h78)) ?_
      refine W.opS (OpIs.ixR (k' := .i64) (b := 40) (v := ((vs 40) + 1)) (sz := 1) (len := n40) (i := x9) (by kernel_rfl) h77 (by rw [ln_40]; exact h76)) ?_
      refine W.guard true (w := ((decide ((r40.getD (x9).toNat 0) < r5_0_0)) == false)) (by kernel_rfl) (congrArg (fun b => b == false) (decide_eq_false h78)) ?_
      refine W.opS (OpIs.ldI (b := 40) (v := ((vs 40) + 1)) (i := (x9).toNat) (w := ((vs 40) + 1)) (fz := false) (k := .u32) (xs := r40) (by kernel_rfl) rfl (by omega)) ?_
      refine W.guard true (w := ((decide ((r40.getD (x9).toNat 0) < r5_0_0)) == false)) (by kernel_rfl) (congrArg (fun b => b == false) (decide_eq_false h78)) ?_
      refine W.adv 1 ?_
      refine W.guard true (w := ((decide ((r40.getD (x9).toNat 0) < r5_0_0)) == false)) (by kernel_rfl) (congrArg (fun b => b == false) (decide_eq_false h78)) ?_
      refine W.adv 1 ?_
      refine W.guard true (w := ((decide ((r40.getD (x9).toNat 0) < r5_0_0)) == false)) (by kernel_rfl) (congrArg (fun b => b == false) (decide_eq_false h78)) ?_
      refine W.adv 1 ?_
      refine W.opS (OpIs.pk false (t := (decide ((r40.getD (x9).toNat 0) < r5_0_0))) (x := (.bool true)) (y := (.bool (decide (r5_0_1 < (r40.getD (x9).toNat 0))))) (by kernel_rfl) (decide_eq_false h78)) ?_
      refine W.adv 2 ?_
      rcases H with ⟨h79, H⟩ | ⟨h79, H⟩
      · refine W.cond true (w := (decide (r5_0_1 < (r40.getD (x9).toNat 0)))) (by kernel_rfl) (decide_eq_true h79) ?_
        refine W.adv 10 ?_
        exact W.to_loop (P := ref44_Covered_l4_s x1 (wi (x9 + 1)) r5_0_0 r5_0_1 r40 n40) (H _ ln_40) (by kernel_rfl)
      · refine W.cond false (w := (decide (r5_0_1 < (r40.getD (x9).toNat 0)))) (by kernel_rfl) (decide_eq_false h79) ?_
        refine W.adv 14 ?_
        exact W.to_loop (P := ref44_Covered_l7_s x1 x9 false 0 r5_0_0 r5_0_1 r40 n40) (H _ ln_40) (by kernel_rfl)
  · refine W.cond false (w := (decide (x9 < (r40.length : Int)))) (by kernel_rfl) (decide_eq_false h76) ?_
    refine W.adv 11 ?_
    exact W.fin (x := .ret) (by kernel_rfl) (Ans.of (d := (.bool true)) (d' := (.bool true)) (e' := (.bool true)) (by kernel_rfl) (by kernel_rfl) (by kernel_rfl) (by rw [H]))
theorem ref44_Covered_l5_go {x1 : List T_api_Prefix} {x9 : Int} {r5_0_0 : Int} {r5_0_1 : Int} {r49 : List Int} {z : Bool} (H : ((x9 < (r49.length : Int) ∧ (0 ≤ x9 ∧ (((r49.getD (x9).toNat 0) < r5_0_0 ∧ (ref44_Covered_l5 x1 (wi (x9 + 1)) r5_0_0 r5_0_1 r49 z)) ∨ (¬ (r49.getD (x9).toNat 0) < r5_0_0 ∧ ((r5_0_1 < (r49.getD (x9).toNat 0) ∧ (ref44_Covered_l5 x1 (wi (x9 + 1)) r5_0_0 r5_0_1 r49 z)) ∨ (¬ r5_0_1 < (r49.getD (x9).toNat 0) ∧ (ref44_Covered_l8 x1 x9 false 0 r5_0_0 r5_0_1 r49 z))))))) ∨ (¬ x9 < (r49.length : Int) ∧ (z = true)))) : ref44_Covered_l5 x1 x9 r5_0_0 r5_0_1 r49 z := by
  intro n49 ln_49 j jb vs
  refine W.adv 1 ?_
  refine W.adv 5 ?_
  refine W.opS (OpIs.ln (n := n49) (m := r49.length) (by kernel_rfl) ln_49) ?_
  refine W.adv 3 ?_
  rcases H with ⟨h80, H⟩ | ⟨h80, H⟩
  · refine W.cond true (w := (decide (x9 < (r49.length : Int)))) (by kernel_rfl) (decide_eq_true h80) ?_
    refine W.adv 9 ?_
    obtain ⟨h81, H⟩ := H
    refine W.opS (OpIs.ixR (k' := .i64) (b := 49) (v := ((vs 49) + 1)) (sz := 1) (len := n49) (i := x9) (by kernel_rfl) h81 (by rw [ln_49]; exact h80)) ?_
    refine W.opS (OpIs.ldI (b := 49) (v := ((vs 49) + 1)) (i := (x9).toNat) (w := ((vs 49) + 1)) (fz := false) (k := .u32) (xs := r49) (by kernel_rfl) rfl (by omega)) ?_
    refine W.adv 4 ?_
    rcases H with ⟨h82, H⟩ | ⟨h82, H⟩
    · refine W.guard false (w := ((decide ((r49.getD (x9).toNat 0) < r5_0_0)) == false)) (by kernel_rfl) (congrArg (fun b => b == false) (decide_eq_true h82)) ?_
      refine W.guard false (w := ((decide ((r49.getD (x9).toNat 0) < r5_0_0)) == false)) (by kernel_rfl) (congrArg (fun b => b == false) (decide_eq_true h82)) ?_
      refine W.guard false (w := ((decide ((r49.getD (x9).toNat 0) < r5_0_0)) == false)) (by kernel_rfl) (congrArg (fun b => b == false) (decide_eq_true h82)) ?_
      refine W.guard false (w := ((decide ((r49.getD (x9).toNat 0) < r5_0_0)) == false)) (by kernel_rfl) (congrArg (fun b => b == false) (decide_eq_true h82)) ?_
      refine W.guard false (w := ((decide ((r49.getD (x9).toNat 0) < r5_0_0)) == false)) (by kernel_rfl) (congrArg (fun b => b == false) (decide_eq_true h82)) ?_
      refine W.guard false (w := ((decide ((r49.getD (x9).toNat 0) < r5_0_0)) == false)) (by kernel_rfl) (congrArg (fun b => b == false) (decide_eq_true h82)) ?_
      refine W.guard false (w := ((decide ((r49.getD (x9).toNat 0) < r5_0_0)) == false)) (by kernel_rfl) (congrArg (fun b => b == false) (decide_eq_true h82)) ?_
      refine W.opS (OpIs.pk true (t := (decide ((r49.getD (x9).toNat 0) < r5_0_0))) (x := (.bool true)) (y := (.tuple [])) (by kernel_rfl) (decide_eq_true h82)) ?_
      refine W.adv 13 ?_
      exact W.to_loop (P := ref44_Covered_l5_s x1 (wi (x9 + 1)) r5_0_0 r5_0_1 r49 n49) (H _ ln_49) (by kernel_rfl)
    · refine W.guard true (w := ((decide ((r49.getD (x9).toNat 0) < r5_0_0)) == false)) (by kernel_rfl) (congrArg (fun b => b == false) (decide_eq_false h82)) ?_
      refine W.adv 1 ?_
      refine W.guard true (w := ((decide ((r49.getD (x9).toNat 0) < r5_0_0)) == false)) (by kernel_rfl) (congrArg (fun b => b == false) (decide_eq_false h82)) ?_
      refine W.adv 1 ?_
      refine W.guard true (w := ((decide ((r49.getD (x9).toNat 0) < r5_0_0)) == false)) (by kernel_rfl) (congrArg (fun b => b == false) (decide_eq_false h82)) ?_
      refine W.opS (OpIs.ixR (k' := .i64) (b := 49) (v := ((vs 49) + 1)) (sz := 1) (len := n49) (i := x9) (by kernel_rfl) h81 (by rw [ln_49]; exact h80)) ?_
      refine W.guard true (w := ((decide ((r49.getD (x9).toNat 0) < r5_0_0)) == false)) (by kernel_rfl) (congrArg (fun b => b == false) (decide_eq_false h82)) ?_
      refine W.opS (OpIs.ldI (b := 49) (v := ((vs 49) + 1)) (i := (x9).toNat) (w := ((vs 49) + 1)) (fz := false) (k := .u32) (xs := r49) (by kernel_rfl) rfl (by omega)) ?_
      refine W.guard true (w := ((decide ((r49.getD (x9).toNat 0) < r5_0_0)) == false)) (by kernel_rfl) (congrArg (fun b => b == false) (decide_eq_false h82)) ?_
      refine W.adv 1 ?_
      refine W.guard true (w := ((decide ((r49.getD (x9).toNat 0) < r5_0_0)) == false)) (by kernel_rfl) (congrArg (fun b => b == false) (decide_eq_false h82)) ?_
      refine W.adv 1 ?_
      refine W.guard true (w := ((decide ((r49.getD (x9).toNat 0) < r5_0_0)) == false)) (by kernel_rfl) (congrArg (fun b => b == false) (decide_eq_false h82)) ?_
      refine W.adv 1 ?_
      refine W.opS (OpIs.pk false (t := (decide ((r49.getD (x9).toNat 0) < r5_0_0))) (x := (.bool true)) (y := (.bool (decide (r5_0_1 < (r49.getD (x9).toNat 0))))) (by kernel_rfl) (decide_eq_false h82)) ?_
      refine W.adv 2 ?_
      rcases H with ⟨h83, H⟩ | ⟨h83, H⟩
      · refine W.cond true (w := (decide (r5_0_1 < (r49.getD (x9).toNat 0)))) (by kernel_rfl) (decide_eq_true h83) ?_
        refine W.adv 10 ?_
        exact W.to_loop (P := ref44_Covered_l5_s x1 (wi (x9 + 1)) r5_0_0 r5_0_1 r49 n49) (H _ ln_49) (by kernel_rfl)
      · refine W.cond false (w := (decide (r5_0_1 < (r49.getD (x9).toNat 0)))) (by kernel_rfl) (decide_eq_false h83) ?_
        refine W.adv 14 ?_
        exact W.to_loop (P := ref44_Covered_l8_s x1 x9 false 0 r5_0_0 r5_0_1 r49 n49) (H _ ln_49) (by kernel_rfl)
  · refine W.cond false (w := (decide (x9 < (r49.length : Int)))) (by kernel_rfl) (decide_eq_false h80) ?_
    refine W.adv 11 ?_
    exact W.fin (x := .ret) (by kernel_rfl) (Ans.of (d := (.bool true)) (d' := (.bool true)) (e' := (.bool true)) (by kernel_rfl) (by kernel_rfl) (by kernel_rfl) (by rw [H]))
theorem ref44_Covered_l6_go {x1 : List T_api_Prefix} {x6 : List Int} {x9 : Int} {x10 : Bool} {x11 : Int} {r5_0_0 : Int} {r5_0_1 : Int} {z : Bool} (H : ((x11 < (x1.length : Int) ∧ ((x10 = true ∧ (ref44_Covered_l6 x1 x6 x9 true (wi (x11 + 1)) r5_0_0 r5_0_1 z)) ∨ (¬ x10 = true ∧ (0 ≤ x11 ∧ (∃ e87 : Int, (∃ e88 : Int, (x1.getD (x11).toNat (0, 0) = (e87, e88) ∧ (0 ≤ x9 ∧ (x9 < (x6.length : Int) ∧ (∃ c92 : Bool, (ref18_Has_R e87 e88 (x6.getD (x9).toNat 0) c92 ∧ (ref44_Covered_l6 x1 x6 x9 c92 (wi (x11 + 1)) r5_0_0 r5_0_1 z)))))))))))) ∨ (¬ x11 < (x1.length : Int) ∧ ((x10 = true ∧ (ref44_Covered_l3 x1 x6 (wi (x9 + 1)) r5_0_0 r5_0_1 z)) ∨ (¬ x10 = true ∧ (z = false)))))) : ref44_Covered_l6 x1 x6 x9 x10 x11 r5_0_0 r5_0_1 z := by
  intro j jb vs
  refine W.adv 1 ?_
  refine W.adv 5 ?_
  refine W.opS (OpIs.ln (n := (x1.map E_api_Prefix).length) (m := x1.length) (by kernel_rfl) (by rw [List.length_map])) ?_
  refine W.adv 3 ?_
  rcases H with ⟨h84, H⟩ | ⟨h84, H⟩
  · refine W.cond true (w := (decide (x11 < (x1.length : Int)))) (by kernel_rfl) (decide_eq_true h84) ?_
    refine W.adv 7 ?_
    rcases H with ⟨h85, H⟩ | ⟨h85, H⟩
    · refine W.guard false (w := (x10 == false)) (by kernel_rfl) (congrArg (fun b => b == false) h85) ?_
      refine W.guard false (w := (x10 == false)) (by kernel_rfl) (congrArg (fun b => b == false) h85) ?_
      refine W.guard false (w := (x10 == false)) (by kernel_rfl) (congrArg (fun b => b == false) h85) ?_
      refine W.guard false (w := (x10 == false)) (by kernel_rfl) (congrArg (fun b => b == false) h85) ?_
      refine W.guard false (w := (x10 == false)) (by kernel_rfl) (congrArg (fun b => b == false) h85) ?_
      refine W.guard false (w := (x10 == false)) (by kernel_rfl) (congrArg (fun b => b == false) h85) ?_
      refine W.guard false (w := (x10 == false)) (by kernel_rfl) (congrArg (fun b => b == false) h85) ?_
      refine W.guard false (w := (x10 == false)) (by kernel_rfl) (congrArg (fun b => b == false) h85) ?_
      refine W.guard false (w := (x10 == false)) (by kernel_rfl) (congrArg (fun b => b == false) h85) ?_
      refine W.opS (OpIs.pk true (t := x10) (x := (.bool true)) (y := (.tuple [])) (by kernel_rfl) h85) ?_
      refine W.adv 10 ?_
      exact W.to_loop (P := ref44_Covered_l6_s x1 x6 x9 true (wi (x11 + 1)) r5_0_0 r5_0_1) (H ) (by kernel_rfl)
    · refine W.guard true (w := (x10 == false)) (by kernel_rfl) (congrArg (fun b => b == false) (bfalse h85)) ?_
      refine W.adv 1 ?_
      refine W.guard true (w := (x10 == false)) (by kernel_rfl) (congrArg (fun b => b == false) (bfalse h85)) ?_
      refine W.adv 1 ?_
      refine W.guard true (w := (x10 == false)) (by kernel_rfl) (congrArg (fun b => b == false) (bfalse h85)) ?_
      obtain ⟨h86, H⟩ := H
      obtain ⟨e87, e88, he89, H⟩ := H
      refine W.opS (OpIs.ixE (enc := E_api_Prefix) (n := 2) (k' := .i64) (L := x1) (i := x11) (d0 := (0, 0)) (x := (e87, e88)) (by kernel_rfl) h86 h84 he89) ?_
      refine W.guard true (w := (x10 == false)) (by kernel_rfl) (congrArg (fun b => b == false) (bfalse h85)) ?_
      refine W.adv 1 ?_
      refine W.guard true (w := (x10 == false)) (by kernel_rfl) (congrArg (fun b => b == false) (bfalse h85)) ?_
      refine W.adv 1 ?_
      refine W.guard true (w := (x10 == false)) (by kernel_rfl) (congrArg (fun b => b == false) (bfalse h85)) ?_
      refine W.adv 1 ?_
      refine W.guard true (w := (x10 == false)) (by kernel_rfl) (congrArg (fun b => b == false) (bfalse h85)) ?_
      obtain ⟨h90, h91, H⟩ := H
      refine W.opS (OpIs.ixI (k := .u32) (k' := .i64) (xs := x6) (i := x9) (by kernel_rfl) h90 h91) ?_
      refine W.guard true (w := (x10 == false)) (by kernel_rfl) (congrArg (fun b => b == false) (bfalse h85)) ?_
      refine W.adv 1 ?_
      refine W.guard true (w := (x10 == false)) (by kernel_rfl) (congrArg (fun b => b == false) (bfalse h85)) ?_
      obtain ⟨c92, hc93, H⟩ := H
      refine W.callR (g := 84) (ds := [(.agg [(.int .u32 e87), (.int .i64 e88)]), (.int .u32 (x6.getD (x9).toNat 0))]) (es := [(.agg [(.int .u32 e87), (.int .i64 e88)]), (.int .u32 (x6.getD (x9).toNat 0))]) (r := (.bool c92)) (by kernel_rfl) (by kernel_rfl) (Ic.args hc93 (by kernel_rfl)) (by kernel_rfl) ?_
      refine W.opS (OpIs.pk false (t := x10) (x := (.bool true)) (y := (.bool c92)) (by kernel_rfl) (bfalse h85)) ?_
      refine W.adv 10 ?_
      exact W.to_loop (P := ref44_Covered_l6_s x1 x6 x9 c92 (wi (x11 + 1)) r5_0_0 r5_0_1) (H ) (by kernel_rfl)
  · refine W.cond false (w := (decide (x11 < (x1.length : Int)))) (by kernel_rfl) (decide_eq_false h84) ?_
    refine W.adv 11 ?_
    rcases H with ⟨h94, H⟩ | ⟨h94, H⟩
    · refine W.cond false (w := (!x10)) (by kernel_rfl) (congrArg (fun b => !b) h94) ?_
      refine W.adv 9 ?_
      exact W.to_loop (P := ref44_Covered_l3_s x1 x6 (wi (x9 + 1)) r5_0_0 r5_0_1) (H ) (by kernel_rfl)
    · refine W.cond true (w := (!x10)) (by kernel_rfl) (congrArg (fun b => !b) (bfalse h94)) ?_
      refine W.adv 11 ?_
      exact W.fin (x := .ret) (by kernel_rfl) (Ans.of (d := (.bool false)) (d' := (.bool false)) (e' := (.bool false)) (by kernel_rfl) (by kernel_rfl) (by kernel_rfl) (by rw [H]))
theorem ref44_Covered_l7_go {x1 : List T_api_Prefix} {x9 : Int} {x10 : Bool} {x11 : Int} {r5_0_0 : Int} {r5_0_1 : Int} {r40 : List Int} {z : Bool} (H : ((x11 < (x1.length : Int) ∧ ((x10 = true ∧ (ref44_Covered_l7 x1 x9 true (wi (x11 + 1)) r5_0_0 r5_0_1 r40 z)) ∨ (¬ x10 = true ∧ (0 ≤ x11 ∧ (∃ e98 : Int, (∃ e99 : Int, (x1.getD (x11).toNat (0, 0) = (e98, e99) ∧ (0 ≤ x9 ∧ (x9 < (r40.length : Int) ∧ (∃ c103 : Bool, (ref18_Has_R e98 e99 (r40.getD (x9).toNat 0) c103 ∧ (ref44_Covered_l7 x1 x9 c103 (wi (x11 + 1)) r5_0_0 r5_0_1 r40 z)))))))))))) ∨ (¬ x11 < (x1.length : Int) ∧ ((x10 = true ∧ (ref44_Covered_l4 x1 (wi (x9 + 1)) r5_0_0 r5_0_1 r40 z)) ∨ (¬ x10 = true ∧ (z = false)))))) : ref44_Covered_l7 x1 x9 x10 x11 r5_0_0 r5_0_1 r40 z := by
  intro n40 ln_40 j jb vs
  refine W.adv 1 ?_
  refine W.adv 5 ?_
  refine W.opS (OpIs.ln (n := (x1.map E_api_Prefix).length) (m := x1.length) (by kernel_rfl) (by rw [List.length_map])) ?_
  refine W.adv 3 ?_
  rcases H with ⟨h95, H⟩ | ⟨h95, H⟩
  · refine W.cond true (w := (decide (x11 < (x1.length : Int)))) (by kernel_rfl) (decide_eq_true h95) ?_
    refine W.adv 7 ?_
    rcases H with ⟨h96, H⟩ | ⟨h96, H⟩
    · refine W.guard false (w := (x10 == false)) (by kernel_rfl) (congrArg (fun b => b == false) h96) ?_
      refine W.guard false (w := (x10 == false)) (by kernel_rfl) (congrArg (fun b => b == false) h96) ?_
      refine W.guard false (w := (x10 == false)) (by kernel_rfl) (congrArg (fun b => b == false) h96) ?_
      refine W.guard false (w := (x10 == false)) (by kernel_rfl) (congrArg (fun b => b == false) h96) ?_
      refine W.guard false (w := (x10 == false)) (by kernel_rfl) (congrArg (fun b => b == false) h96) ?_
      refine W.guard false (w := (x10 == false)) (by kernel_rfl) (congrArg (fun b => b == false) h96) ?_
      refine W.guard false (w := (x10 == false)) (by kernel_rfl) (congrArg (fun b => b == false) h96) ?_
      refine W.guard false (w := (x10 == false)) (by kernel_rfl) (congrArg (fun b => b == false) h96) ?_
      refine W.guard false (w := (x10 == false)) (by kernel_rfl) (congrArg (fun b => b == false) h96) ?_
      refine W.opS (OpIs.pk true (t := x10) (x := (.bool true)) (y := (.tuple [])) (by kernel_rfl) h96) ?_
      refine W.adv 10 ?_
      exact W.to_loop (P := ref44_Covered_l7_s x1 x9 true (wi (x11 + 1)) r5_0_0 r5_0_1 r40 n40) (H _ ln_40) (by kernel_rfl)
    · refine W.guard true (w := (x10 == false)) (by kernel_rfl) (congrArg (fun b => b == false) (bfalse h96)) ?_
      refine W.adv 1 ?_
      refine W.guard true (w := (x10 == false)) (by kernel_rfl) (congrArg (fun b => b == false) (bfalse h96)) ?_
      refine W.adv 1 ?_
      refine W.guard true (w := (x10 == false)) (by kernel_rfl) (congrArg (fun b => b == false) (bfalse h96)) ?_
      obtain ⟨h97, H⟩ := H
      obtain ⟨e98, e99, he100, H⟩ := H
      refine W.opS (OpIs.ixE (enc := E_api_Prefix) (n := 2) (k' := .i64) (L := x1) (i := x11) (d0 := (0, 0)) (x := (e98, e99)) (by kernel_rfl) h97 h95 he100) ?_
      refine W.guard true (w := (x10 == false)) (by kernel_rfl) (congrArg (fun b => b == false) (bfalse h96)) ?_
      refine W.adv 1 ?_
      refine W.guard true (w := (x10 == false)) (by kernel_rfl) (congrArg (fun b => b == false) (bfalse h96)) ?_
      refine W.adv 1 ?_
      refine W.guard true (w := (x10 == false)) (by kernel_rfl) (congrArg (fun b => b == false) (bfalse h96)) ?_
      refine W.adv 1 ?_
      refine W.guard true (w := (x10 == false)) (by kernel_rfl) (congrArg (fun b => b == false) (bfalse h96)) ?_
      obtain ⟨h101, h102, H⟩ := H
      refine W.opS (OpIs.ixR (k' := .i64) (b := 40) (v := ((vs 40) + 1)) (sz := 1) (len := n40) (i := x9) (by kernel_rfl) h101 (by rw [ln_40]; exact h102)) ?_
      refine W.guard true (w := (x10 == false)) (by kernel_rfl) (congrArg (fun b => b == false) (bfalse h96)) ?_
      refine W.opS (OpIs.ldI (b := 40) (v := ((vs 40) + 1)) (i := (x9).toNat) (w := ((vs 40) + 1)) (fz := false) (k := .u32) (xs := r40) (by kernel_rfl) rfl (by omega)) ?_
      refine W.guard true (w := (x10 == false)) (by kernel_rfl) (congrArg (fun b => b == false) (bfalse h96)) ?_
      obtain ⟨c103, hc104, H⟩ := H
      refine W.callR (g := 84) (ds := [(.agg [(.int .u32 e98), (.int .i64 e99)]), (.int .u32 (r40.getD (x9).toNat 0))]) (es := [(.agg [(.int .u32 e98), (.int .i64 e99)]), (.int .u32 (r40.getD (x9).toNat 0))]) (r := (.bool c103)) (by kernel_rfl) (by kernel_rfl) (Ic.args hc104 (by kernel_rfl)) (by kernel_rfl) ?_
      refine W.opS (OpIs.pk false (t := x10) (x := (.bool true)) (y := (.bool c103)) (by kernel_rfl) (bfalse h96)) ?_
      refine W.adv 10 ?_
      exact W.to_loop (P := ref44_Covered_l7_s x1 x9 c103 (wi (x11 + 1)) r5_0_0 r5_0_1 r40 n40) (H _ ln_40) (by kernel_rfl)
  · refine W.cond false (w := (decide (x11 < (x1.length : Int)))) (by kernel_rfl) (decide_eq_false h95) ?_
    refine W.adv 11 ?_
    rcases H with ⟨h105, H⟩ | ⟨h105, H⟩
    · refine W.cond false (w := (!x10)) (by kernel_rfl) (congrArg (fun b => !b) h105) ?_
      refine W.adv 9 ?_
      exact W.to_loop (P := ref44_Covered_l4_s x1 (wi (x9 + 1)) r5_0_0 r5_0_1 r40 n40) (H _ ln_40) (by kernel_rfl)
    · refine W.cond true (w := (!x10)) (by kernel_rfl) (congrArg (fun b => !b) (bfalse h105)) ?_
      refine W.adv 11 ?_
      exact W.fin (x := .ret) (by kernel_rfl) (Ans.of (d := (.bool false)) (d' := (.bool false)) (e' := (.bool false)) (by kernel_rfl) (by kernel_rfl) (by kernel_rfl) (by rw [H]))
theorem ref44_Covered_l8_go {x1 : List T_api_Prefix} {x9 : Int} {x10 : Bool} {x11 : Int} {r5_0_0 : Int} {r5_0_1 : Int} {r49 : List Int} {z : Bool} (H : ((x11 < (x1.length : Int) ∧ ((x10 = true ∧ (ref44_Covered_l8 x1 x9 true (wi (x11 + 1)) r5_0_0 r5_0_1 r49 z)) ∨ (¬ x10 = true ∧ (0 ≤ x11 ∧ (∃ e109 : Int, (∃ e110 : Int, (x1.getD (x11).toNat (0, 0) = (e109, e110) ∧ (0 ≤ x9 ∧ (x9 < (r49.length : Int) ∧ (∃ c114 : Bool, (ref18_Has_R e109 e110 (r49.getD (x9).toNat 0) c114 ∧ (ref44_Covered_l8 x1 x9 c114 (wi (x11 + 1)) r5_0_0 r5_0_1 r49 z)))))))))))) ∨ (¬ x11 < (x1.length : Int) ∧ ((x10 = true ∧ (ref44_Covered_l5 x1 (wi (x9 + 1)) r5_0_0 r5_0_1 r49 z)) ∨ (¬ x10 = true ∧ (z = false)))))) : ref44_Covered_l8 x1 x9 x10 x11 r5_0_0 r5_0_1 r49 z := by
  intro n49 ln_49 j jb vs
  refine W.adv 1 ?_
  refine W.adv 5 ?_
  refine W.opS (OpIs.ln (n := (x1.map E_api_Prefix).length) (m := x1.length) (by kernel_rfl) (by rw [List.length_map])) ?_
  refine W.adv 3 ?_
  rcases H with ⟨h106, H⟩ | ⟨h106, H⟩
  · refine W.cond true (w := (decide (x11 < (x1.length : Int)))) (by kernel_rfl) (decide_eq_true h106) ?_
    refine W.adv 7 ?_
    rcases H with ⟨h107, H⟩ | ⟨h107, H⟩
    · refine W.guard false (w := (x10 == false)) (by kernel_rfl) (congrArg (fun b => b == false) h107) ?_
      refine W.guard false (w := (x10 == false)) (by kernel_rfl) (congrArg (fun b => b == false) h107) ?_
      refine W.guard false (w := (x10 == false)) (by kernel_rfl) (congrArg (fun b => b == false) h107) ?_
      refine W.guard false (w := (x10 == false)) (by kernel_rfl) (congrArg (fun b => b == false) h107) ?_
      refine W.guard false (w := (x10 == false)) (by kernel_rfl) (congrArg (fun b => b == false) h107) ?_
      refine W.guard false (w := (x10 == false)) (by kernel_rfl) (congrArg (fun b => b == false) h107) ?_
      refine W.guard false (w := (x10 == false)) (by kernel_rfl) (congrArg (fun b => b == false) h107) ?_
      refine W.guard false (w := (x10 == false)) (by kernel_rfl) (congrArg (fun b => b == false) h107) ?_
      refine W.guard false (w := (x10 == false)) (by kernel_rfl) (congrArg (fun b => b == false) h107) ?_
      refine W.opS (OpIs.pk true (t := x10) (x := (.bool true)) (y := (.tuple [])) (by kernel_rfl) h107) ?_
      refine W.adv 10 ?_
      exact W.to_loop (P := ref44_Covered_l8_s x1 x9 true (wi (x11 + 1)) r5_0_0 r5_0_1 r49 n49) (H _ ln_49) (by kernel_rfl)
    · refine W.guard true (w := (x10 == false)) (by kernel_rfl) (congrArg (fun b => b == false) (bfalse h107)) ?_
      refine W.adv 1 ?_
      refine W.guard true (w := (x10 == false)) (by kernel_rfl) (congrArg (fun b => b == false) (bfalse h107)) ?_
      refine W.adv 1 ?_
      refine W.guard true (w := (x10 == false)) (by kernel_rfl) (congrArg (fun b => b == false) (bfalse h107)) ?_
      obtain ⟨h108, H⟩ := H
      obtain ⟨e109, e110, he111, H⟩ := H
      refine W.opS (OpIs.ixE (enc := E_api_Prefix) (n := 2) (k' := .i64) (L := x1) (i := x11) (d0 := (0, 0)) (x := (e109, e110)) (by kernel_rfl) h108 h106 he111) ?_
      refine W.guard true (w := (x10 == false)) (by kernel_rfl) (congrArg (fun b => b == false) (bfalse h107)) ?_
      refine W.adv 1 ?_
      refine W.guard true (w := (x10 == false)) (by kernel_rfl) (congrArg (fun b => b == false) (bfalse h107)) ?_
      refine W.adv 1 ?_
      refine W.guard true (w := (x10 == false)) (by kernel_rfl) (congrArg (fun b => b == false) (bfalse h107)) ?_
      refine W.adv 1 ?_
      refine W.guard true (w := (x10 == false)) (by kernel_rfl) (congrArg (fun b => b == false) (bfalse h107)) ?_
      obtain ⟨h112, h113, H⟩ := H
      refine W.opS (OpIs.ixR (k' := .i64) (b := 49) (v := ((vs 49) + 1)) (sz := 1) (len := n49) (i := x9) (by kernel_rfl) h112 (by rw [ln_49]; exact h113)) ?_
      refine W.guard true (w := (x10 == false)) (by kernel_rfl) (congrArg (fun b => b == false) (bfalse h107)) ?_
      refine W.opS (OpIs.ldI (b := 49) (v := ((vs 49) + 1)) (i := (x9).toNat) (w := ((vs 49) + 1)) (fz := false) (k := .u32) (xs := r49) (by kernel_rfl) rfl (by omega)) ?_
      refine W.guard true (w := (x10 == false)) (by kernel_rfl) (congrArg (fun b => b == false) (bfalse h107)) ?_
      obtain ⟨c114, hc115, H⟩ := H
      refine W.callR (g := 84) (ds := [(.agg [(.int .u32 e109), (.int .i64 e110)]), (.int .u32 (r49.getD (x9).toNat 0))]) (es := [(.agg [(.int .u32 e109), (.int .i64 e110)]), (.int .u32 (r49.getD (x9).toNat 0))]) (r := (.bool c114)) (by kernel_rfl) (by kernel_rfl) (Ic.args hc115 (by kernel_rfl)) (by kernel_rfl) ?_
      refine W.opS (OpIs.pk false (t := x10) (x := (.bool true)) (y := (.bool c114)) (by kernel_rfl) (bfalse h107)) ?_
      refine W.adv 10 ?_
      exact W.to_loop (P := ref44_Covered_l8_s x1 x9 c114 (wi (x11 + 1)) r5_0_0 r5_0_1 r49 n49) (H _ ln_49) (by kernel_rfl)
  · refine W.cond false (w := (decide (x11 < (x1.length : Int)))) (by kernel_rfl) (decide_eq_false h106) ?_
    refine W.adv 11 ?_
    rcases H with ⟨h116, H⟩ | ⟨h116, H⟩
    · refine W.cond false (w := (!x10)) (by kernel_rfl) (congrArg (fun b => !b) h116) ?_
      refine W.adv 9 ?_
      exact W.to_loop (P := ref44_Covered_l5_s x1 (wi (x9 + 1)) r5_0_0 r5_0_1 r49 n49) (H _ ln_49) (by kernel_rfl)
    · refine W.cond true (w := (!x10)) (by kernel_rfl) (congrArg (fun b => !b) (bfalse h116)) ?_
      refine W.adv 11 ?_
      exact W.fin (x := .ret) (by kernel_rfl) (Ans.of (d := (.bool false)) (d' := (.bool false)) (e' := (.bool false)) (by kernel_rfl) (by kernel_rfl) (by kernel_rfl) (by rw [H]))
theorem ref44_Covered_go {a0_0 : Int} {a0_1 : Int} {a1 : List T_api_Prefix} {z : Bool} (H : (∃ c1 : Bool, (ref18_May_R a0_0 a0_1 c1 ∧ ((c1 = true ∧ (∃ c4_0 : Int, (∃ c4_1 : Int, (ref18_Range_R a0_0 a0_1 c4_0 c4_1 ∧ (ref44_Covered_l0 a1 [c4_0] 0 c4_0 c4_1 z))))) ∨ (¬ c1 = true ∧ (z = true)))))) : ref44_Covered_R a0_0 a0_1 a1 z := by
  refine W.ic (zs := [(.agg [(.int .u32 a0_0), (.int .i64 a0_1)]), (.list 2 (a1.map E_api_Prefix))]) Tryz.func28 (by kernel_rfl) (by kernel_rfl) (by kernel_rfl) (by kernel_rfl) ?_
  refine W.adv 10 ?_
  obtain ⟨c1, hc2, H⟩ := H
  refine W.callR (g := 82) (ds := [(.agg [(.int .u32 a0_0), (.int .i64 a0_1)])]) (es := [(.agg [(.int .u32 a0_0), (.int .i64 a0_1)])]) (r := (.bool c1)) (by kernel_rfl) (by kernel_rfl) (Ic.args hc2 (by kernel_rfl)) (by kernel_rfl) ?_
  refine W.adv 3 ?_
  rcases H with ⟨h3, H⟩ | ⟨h3, H⟩
  · refine W.cond false (w := (!c1)) (by kernel_rfl) (congrArg (fun b => !b) h3) ?_
    refine W.adv 5 ?_
    obtain ⟨c4_0, c4_1, hc5, H⟩ := H
    refine W.callR (g := 83) (ds := [(.agg [(.int .u32 a0_0), (.int .i64 a0_1)])]) (es := [(.agg [(.int .u32 a0_0), (.int .i64 a0_1)])]) (r := (.agg [(.int .u32 c4_0), (.int .u32 c4_1)])) (by kernel_rfl) (by kernel_rfl) (Ic.args hc5 (by kernel_rfl)) (by kernel_rfl) ?_
    refine W.adv 19 ?_
    exact W.to_loop (P := ref44_Covered_l0_s a1 [c4_0] 0 c4_0 c4_1) (H ) (by kernel_rfl)
  · refine W.cond true (w := (!c1)) (by kernel_rfl) (congrArg (fun b => !b) (bfalse h3)) ?_
    refine W.adv 7 ?_
    exact W.fin (x := .ret) (by kernel_rfl) (Ans.of (d := (.bool true)) (d' := (.bool true)) (e' := (.bool true)) (by kernel_rfl) (by kernel_rfl) (by kernel_rfl) (by rw [H]))
end Go.Proofs.YtjcdkemnflmfiaaGreatA
