/- Walks through the functions: what makes each relation true. -/
import Derived.Test.YtmdgdgfhgaeddaaGreatW0
set_option linter.unusedVariables false
set_option maxRecDepth 100000
namespace Go.Proofs.YtmdgdgfhgaeddaaGreatA
open Go Go.Proofs
/-! ### trivium/triviumlaw10.FoldSorts -/
noncomputable def law10_FoldSorts_l0_s (x3 : List T_api_Rat) (x4 : List T_ref08_Q) (x5 : List T_api_Rat) (x6 : List T_api_Rat) (x9 : Int) (x11 : Int) (r7_0_0 : Bool) (r7_0_1 : List Int) (r7_0_2 : List Int) (r8_0_0 : Bool) (r8_0_1 : List Int) (r8_0_2 : List Int) (r10_0_0 : Bool) (r10_0_1 : List Int) (r10_0_2 : List Int) (j : Nat → D) (jb : Nat → Blk) (vs : Nat → Nat) : Cf := cfAt Tryz.f3 [1, 1, 1, 1, 1, 1, 1, 0, 1, 0] ⟨[j 0, j 1, j 2, (.list 3 (x3.map E_api_Rat)), (.list 3 (x4.map E_ref08_Q)), (.list 3 (x5.map E_api_Rat)), (.list 3 (x6.map E_api_Rat)), .pref 7 1 0 0, .pref 8 1 0 0, .int .i64 x9, .pref 10 1 0 0, .int .i64 x11, j 12, j 13, j 14, j 15, j 16, j 17, j 18, j 19, j 20, j 21, j 22, j 23, j 24, j 25, j 26, j 27, j 28, j 29, j 30, j 31, j 32, j 33, j 34, j 35, j 36, j 37, j 38, j 39, j 40, j 41, j 42, j 43, j 44, j 45, j 46, j 47, j 48, j 49, j 50, j 51, j 52, j 53, j 54, j 55, j 56, j 57, j 58, j 59, j 60, j 61, j 62, j 63, j 64, j 65, j 66, j 67, j 68, j 69, j 70, j 71, j 72, j 73, j 74, j 75, j 76, j 77, j 78, j 79, j 80, j 81, j 82, j 83, j 84, j 85, j 86, j 87, j 88, j 89, j 90, j 91, j 92, j 93, j 94, j 95, j 96, j 97, j 98, j 99, j 100, j 101, j 102, j 103, j 104, j 105, j 106, j 107, j 108, j 109, j 110, j 111, j 112, j 113, j 114, j 115, j 116, j 117, j 118, j 119, j 120, j 121, j 122, j 123, j 124, j 125, j 126, j 127, j 128, j 129, j 130, j 131, j 132, j 133, j 134, j 135, j 136, j 137, j 138, j 139, j 140, j 141], [jb 0, jb 1, jb 2, jb 3, jb 4, jb 5, jb 6, ⟨1, false, .rows 3 [(.agg [.bool r7_0_0, .ints .u64 r7_0_1, .ints .u64 r7_0_2])]⟩, ⟨1, false, .rows 3 [(.agg [.bool r8_0_0, .ints .u64 r8_0_1, .ints .u64 r8_0_2])]⟩, jb 9, ⟨1, false, .rows 3 [(.agg [.bool r10_0_0, .ints .i64 r10_0_1, .ints .i64 r10_0_2])]⟩, jb 11, jb 12, jb 13, jb 14, jb 15, jb 16, jb 17, jb 18, jb 19, jb 20, jb 21, jb 22, jb 23, jb 24, jb 25, jb 26, jb 27, jb 28, jb 29, jb 30, jb 31, jb 32, jb 33, jb 34, jb 35, jb 36, jb 37, jb 38, jb 39, jb 40, jb 41, jb 42, jb 43, jb 44, jb 45, jb 46, jb 47, jb 48, jb 49, jb 50, jb 51, jb 52, jb 53, jb 54, jb 55, jb 56, jb 57, jb 58, jb 59, jb 60, jb 61, jb 62, jb 63, jb 64, jb 65, jb 66, jb 67, jb 68, jb 69, jb 70, jb 71, jb 72, jb 73, jb 74, jb 75, jb 76, jb 77, jb 78, jb 79, jb 80, jb 81, jb 82, jb 83, jb 84, jb 85, jb 86, jb 87, jb 88, jb 89, jb 90, jb 91, jb 92, jb 93, jb 94, jb 95, jb 96, jb 97, jb 98, jb 99, jb 100, jb 101, jb 102, jb 103, jb 104, jb 105, jb 106, jb 107, jb 108, jb 109, jb 110, jb 111, jb 112, jb 113, jb 114, jb 115, jb 116, jb 117, jb 118, jb 119, jb 120, jb 121, jb 122, jb 123, jb 124, jb 125, jb 126, jb 127, jb 128, jb 129, jb 130, jb 131, jb 132, jb 133, jb 134, jb 135, jb 136, jb 137, jb 138, jb 139, jb 140, jb 141]⟩
def law10_FoldSorts_l0 (x3 : List T_api_Rat) (x4 : List T_ref08_Q) (x5 : List T_api_Rat) (x6 : List T_api_Rat) (x9 : Int) (x11 : Int) (r7_0_0 : Bool) (r7_0_1 : List Int) (r7_0_2 : List Int) (r8_0_0 : Bool) (r8_0_1 : List Int) (r8_0_2 : List Int) (r10_0_0 : Bool) (r10_0_1 : List Int) (r10_0_2 : List Int) (z : Bool) : Prop := ∀ j jb vs, W C F 3 0 (law10_FoldSorts_l0_s x3 x4 x5 x6 x9 x11 r7_0_0 r7_0_1 r7_0_2 r8_0_0 r8_0_1 r8_0_2 r10_0_0 r10_0_1 r10_0_2  j jb vs) (LAns C Tryz.f3 z)
noncomputable def law10_FoldSorts_l1_s (x3 : List T_api_Rat) (x4 : List T_ref08_Q) (x5 : List T_api_Rat) (x6 : List T_api_Rat) (x9 : Int) (x11 : Int) (x12 : Int) (x13 : Int) (r7_0_0 : Bool) (r7_0_1 : List Int) (r7_0_2 : List Int) (r8_0_0 : Bool) (r8_0_1 : List Int) (r8_0_2 : List Int) (r10_0_0 : Bool) (r10_0_1 : List Int) (r10_0_2 : List Int) (j : Nat → D) (jb : Nat → Blk) (vs : Nat → Nat) : Cf := cfAt Tryz.f3 [1, 1, 1, 1, 1, 1, 1, 0, 1, 0, 0, 1, 0, 0, 1, 1, 1, 0, 1, 0] ⟨[j 0, j 1, j 2, (.list 3 (x3.map E_api_Rat)), (.list 3 (x4.map E_ref08_Q)), (.list 3 (x5.map E_api_Rat)), (.list 3 (x6.map E_api_Rat)), .pref 7 1 0 0, .pref 8 1 0 0, .int .i64 x9, .pref 10 1 0 0, .int .i64 x11, .int .i64 x12, .int .i64 x13, j 14, j 15, j 16, j 17, j 18, j 19, j 20, j 21, j 22, j 23, j 24, j 25, j 26, j 27, j 28, j 29, j 30, j 31, j 32, j 33, j 34, j 35, j 36, j 37, j 38, j 39, j 40, j 41, j 42, j 43, j 44, j 45, j 46, j 47, j 48, j 49, j 50, j 51, j 52, j 53, j 54, j 55, j 56, j 57, j 58, j 59, j 60, j 61, j 62, j 63, j 64, j 65, j 66, j 67, j 68, j 69, j 70, j 71, j 72, j 73, j 74, j 75, j 76, j 77, j 78, j 79, j 80, j 81, j 82, j 83, j 84, j 85, j 86, j 87, j 88, j 89, j 90, j 91, j 92, j 93, j 94, j 95, j 96, j 97, j 98, j 99, j 100, j 101, j 102, j 103, j 104, j 105, j 106, j 107, j 108, j 109, j 110, j 111, j 112, j 113, j 114, j 115, j 116, j 117, j 118, j 119, j 120, j 121, j 122, j 123, j 124, j 125, j 126, j 127, j 128, j 129, j 130, j 131, j 132, j 133, j 134, j 135, j 136, j 137, j 138, j 139, j 140, j 141], [jb 0, jb 1, jb 2, jb 3, jb 4, jb 5, jb 6, ⟨1, false, .rows 3 [(.agg [.bool r7_0_0, .ints .u64 r7_0_1, .ints .u64 r7_0_2])]⟩, ⟨1, false, .rows 3 [(.agg [.bool r8_0_0, .ints .u64 r8_0_1, .ints .u64 r8_0_2])]⟩, jb 9, ⟨1, false, .rows 3 [(.agg [.bool r10_0_0, .ints .i64 r10_0_1, .ints .i64 r10_0_2])]⟩, jb 11, jb 12, jb 13, jb 14, jb 15, jb 16, jb 17, jb 18, jb 19, jb 20, jb 21, jb 22, jb 23, jb 24, jb 25, jb 26, jb 27, jb 28, jb 29, jb 30, jb 31, jb 32, jb 33, jb 34, jb 35, jb 36, jb 37, jb 38, jb 39, jb 40, jb 41, jb 42, jb 43, jb 44, jb 45, jb 46, jb 47, jb 48, jb 49, jb 50, jb 51, jb 52, jb 53, jb 54, jb 55, jb 56, jb 57, jb 58, jb 59, jb 60, jb 61, jb 62, jb 63, jb 64, jb 65, jb 66, jb 67, jb 68, jb 69, jb 70, jb 71, jb 72, jb 73, jb 74, jb 75, jb 76, jb 77, jb 78, jb 79, jb 80, jb 81, jb 82, jb 83, jb 84, jb 85, jb 86, jb 87, jb 88, jb 89, jb 90, jb 91, jb 92, jb 93, jb 94, jb 95, jb 96, jb 97, jb 98, jb 99, jb 100, jb 101, jb 102, jb 103, jb 104, jb 105, jb 106, jb 107, jb 108, jb 109, jb 110, jb 111, jb 112, jb 113, jb 114, jb 115, jb 116, jb 117, jb 118, jb 119, jb 120, jb 121, jb 122, jb 123, jb 124, jb 125, jb 126, jb 127, jb 128, jb 129, jb 130, jb 131, jb 132, jb 133, jb 134, jb 135, jb 136, jb 137, jb 138, jb 139, jb 140, jb 141]⟩
def law10_FoldSorts_l1 (x3 : List T_api_Rat) (x4 : List T_ref08_Q) (x5 : List T_api_Rat) (x6 : List T_api_Rat) (x9 : Int) (x11 : Int) (x12 : Int) (x13 : Int) (r7_0_0 : Bool) (r7_0_1 : List Int) (r7_0_2 : List Int) (r8_0_0 : Bool) (r8_0_1 : List Int) (r8_0_2 : List Int) (r10_0_0 : Bool) (r10_0_1 : List Int) (r10_0_2 : List Int) (z : Bool) : Prop := ∀ j jb vs, W C F 3 0 (law10_FoldSorts_l1_s x3 x4 x5 x6 x9 x11 x12 x13 r7_0_0 r7_0_1 r7_0_2 r8_0_0 r8_0_1 r8_0_2 r10_0_0 r10_0_1 r10_0_2  j jb vs) (LAns C Tryz.f3 z)
theorem law10_FoldSorts_l0_go {x3 : List T_api_Rat} {x4 : List T_ref08_Q} {x5 : List T_api_Rat} {x6 : List T_api_Rat} {x9 : Int} {x11 : Int} {r7_0_0 : Bool} {r7_0_1 : List Int} {r7_0_2 : List Int} {r8_0_0 : Bool} {r8_0_1 : List Int} {r8_0_2 : List Int} {r10_0_0 : Bool} {r10_0_1 : List Int} {r10_0_2 : List Int} {z : Bool} (H : ((x11 < (x4.length : Int) ∧ (0 ≤ x11 ∧ (∃ e19 : Bool, (∃ e20 : List Int, (∃ e21 : List Int, (x4.getD (x11).toNat (false, [], []) = (e19, e20, e21) ∧ (∃ c23_0 : Bool, (∃ c23_1 : List Int, (∃ c23_2 : List Int, (ref08_Add_R r10_0_0 r10_0_1 r10_0_2 e19 e20 e21 c23_0 c23_1 c23_2 ∧ (x11 < (x6.length : Int) ∧ (∃ e26 : Bool, (∃ e27 : List Int, (∃ e28 : List Int, (x6.getD (x11).toNat (false, [], []) = (e26, e27, e28) ∧ (∃ c30_0 : Bool, (∃ c30_1 : List Int, (∃ c30_2 : List Int, (ref08_Back_R c23_0 c23_1 c23_2 c30_0 c30_1 c30_2 ∧ (∃ c32 : Bool, (ref08_Same_R e26 e27 e28 c30_0 c30_1 c30_2 c32 ∧ ((c32 = true ∧ ((0 < x11 ∧ (0 ≤ (wi (x11 - 1)) ∧ ((wi (x11 - 1)) < (x5.length : Int) ∧ (∃ e38 : Bool, (∃ e39 : List Int, (∃ e40 : List Int, (x5.getD (wi (x11 - 1)).toNat (false, [], []) = (e38, e39, e40) ∧ (∃ c42_0 : Bool, (∃ c42_1 : List Int, (∃ c42_2 : List Int, (ref08_Of_R e38 e39 e40 c42_0 c42_1 c42_2 ∧ (x11 < (x5.length : Int) ∧ (∃ e45 : Bool, (∃ e46 : List Int, (∃ e47 : List Int, (x5.getD (x11).toNat (false, [], []) = (e45, e46, e47) ∧ (∃ c49_0 : Bool, (∃ c49_1 : List Int, (∃ c49_2 : List Int, (ref08_Of_R e45 e46 e47 c49_0 c49_1 c49_2 ∧ (∃ c51 : Int, (ref08_Cmp_R c42_0 c42_1 c42_2 c49_0 c49_1 c49_2 c51 ∧ ((0 < c51 ∧ (z = false)) ∨ (¬ 0 < c51 ∧ (law10_FoldSorts_l1 x3 x4 x5 x6 x9 x11 0 0 r7_0_0 r7_0_1 r7_0_2 r8_0_0 r8_0_1 r8_0_2 c23_0 c23_1 c23_2 z))))))))))))))))))))))))) ∨ (¬ 0 < x11 ∧ (law10_FoldSorts_l1 x3 x4 x5 x6 x9 x11 0 0 r7_0_0 r7_0_1 r7_0_2 r8_0_0 r8_0_1 r8_0_2 c23_0 c23_1 c23_2 z)))) ∨ (¬ c32 = true ∧ (z = false)))))))))))))))))))))))) ∨ (¬ x11 < (x4.length : Int) ∧ ((x9 = 0 ∧ (0 < (x5.length : Int) ∧ (∃ e56 : Bool, (∃ e57 : List Int, (∃ e58 : List Int, (x5.getD 0 (false, [], []) = (e56, e57, e58) ∧ (∃ c60 : Bool, (ref08_Same_R r7_0_0 r7_0_1 r7_0_2 e56 e57 e58 c60 ∧ ((c60 = true ∧ (0 ≤ (wi ((x5.length : Int) - 1)) ∧ ((wi ((x5.length : Int) - 1)) < (x5.length : Int) ∧ (∃ e65 : Bool, (∃ e66 : List Int, (∃ e67 : List Int, (x5.getD (wi ((x5.length : Int) - 1)).toNat (false, [], []) = (e65, e66, e67) ∧ (∃ c69 : Bool, (ref08_Same_R r8_0_0 r8_0_1 r8_0_2 e65 e66 e67 c69 ∧ ((c69 = true ∧ (∃ c72 : Bool, (law10_works_R c72 ∧ (z = c72)))) ∨ (¬ c69 = true ∧ (z = false)))))))))))) ∨ (¬ c60 = true ∧ (z = false))))))))))) ∨ (¬ x9 = 0 ∧ (z = false)))))) : law10_FoldSorts_l0 x3 x4 x5 x6 x9 x11 r7_0_0 r7_0_1 r7_0_2 r8_0_0 r8_0_1 r8_0_2 r10_0_0 r10_0_1 r10_0_2 z := by
  intro j jb vs
  refine W.adv 1 ?_
  refine W.adv 5 ?_
  refine W.opS (OpIs.ln (n := (x4.map E_ref08_Q).length) (m := x4.length) (by kernel_rfl) (by rw [List.length_map])) ?_
  refine W.adv 3 ?_
  rcases H with ⟨h17, H⟩ | ⟨h17, H⟩
  · refine W.cond true (w := (decide (x11 < (x4.length : Int)))) (by kernel_rfl) (decide_eq_true h17) ?_
    refine W.adv 9 ?_
    obtain ⟨h18, H⟩ := H
    obtain ⟨e19, e20, e21, he22, H⟩ := H
    refine W.opS (OpIs.ixE (enc := E_ref08_Q) (n := 3) (k' := .i64) (L := x4) (i := x11) (d0 := (false, [], [])) (x := (e19, e20, e21)) (by kernel_rfl) h18 h17 he22) ?_
    refine W.adv 1 ?_
    obtain ⟨c23_0, c23_1, c23_2, hc24, H⟩ := H
    refine W.callR (g := 10) (ds := [(.agg [.bool r10_0_0, .ints .i64 r10_0_1, .ints .i64 r10_0_2]), (.agg [.bool e19, .ints .i64 e20, .ints .i64 e21])]) (es := [(.agg [.bool r10_0_0, .ints .i64 r10_0_1, .ints .i64 r10_0_2]), (.agg [.bool e19, .ints .i64 e20, .ints .i64 e21])]) (r := (.agg [.bool c23_0, .ints .i64 c23_1, .ints .i64 c23_2])) (by kernel_rfl) (by kernel_rfl) (Ic.args hc24 (by kernel_rfl)) (by kernel_rfl) ?_
    refine W.adv 8 ?_
    obtain ⟨h25, H⟩ := H
    obtain ⟨e26, e27, e28, he29, H⟩ := H
    refine W.opS (OpIs.ixE (enc := E_api_Rat) (n := 3) (k' := .i64) (L := x6) (i := x11) (d0 := (false, [], [])) (x := (e26, e27, e28)) (by kernel_rfl) h18 h25 he29) ?_
    refine W.adv 2 ?_
    obtain ⟨c30_0, c30_1, c30_2, hc31, H⟩ := H
    refine W.callR (g := 12) (ds := [(.agg [.bool c23_0, .ints .i64 c23_1, .ints .i64 c23_2])]) (es := [(.agg [.bool c23_0, .ints .i64 c23_1, .ints .i64 c23_2])]) (r := (.agg [.bool c30_0, .ints .u64 c30_1, .ints .u64 c30_2])) (by kernel_rfl) (by kernel_rfl) (Ic.args hc31 (by kernel_rfl)) (by kernel_rfl) ?_
    obtain ⟨c32, hc33, H⟩ := H
    refine W.callR (g := 11) (ds := [(.agg [.bool e26, .ints .u64 e27, .ints .u64 e28]), (.agg [.bool c30_0, .ints .u64 c30_1, .ints .u64 c30_2])]) (es := [(.agg [.bool e26, .ints .u64 e27, .ints .u64 e28]), (.agg [.bool c30_0, .ints .u64 c30_1, .ints .u64 c30_2])]) (r := (.bool c32)) (by kernel_rfl) (by kernel_rfl) (Ic.args hc33 (by kernel_rfl)) (by kernel_rfl) ?_
    refine W.adv 2 ?_
    rcases H with ⟨h34, H⟩ | ⟨h34, H⟩
    · refine W.guard true (w := ((!c32) == false)) (by kernel_rfl) (congrArg (fun b => b == false) (congrArg (fun b => !b) h34)) ?_
      refine W.adv 1 ?_
      refine W.guard true (w := ((!c32) == false)) (by kernel_rfl) (congrArg (fun b => b == false) (congrArg (fun b => !b) h34)) ?_
      refine W.adv 1 ?_
      refine W.guard true (w := ((!c32) == false)) (by kernel_rfl) (congrArg (fun b => b == false) (congrArg (fun b => !b) h34)) ?_
      refine W.adv 1 ?_
      rcases H with ⟨h35, H⟩ | ⟨h35, H⟩
      · refine W.guard true (w := ((decide (0 < x11)) == true)) (by kernel_rfl) (congrArg (fun b => b == true) (decide_eq_true h35)) ?_
        refine W.adv 1 ?_
        refine W.guard true (w := ((decide (0 < x11)) == true)) (by kernel_rfl) (congrArg (fun b => b == true) (decide_eq_true h35)) ?_
        refine W.adv 1 ?_
        refine W.guard true (w := ((decide (0 < x11)) == true)) (by kernel_rfl) (congrArg (fun b => b == true) (decide_eq_true h35)) ?_
        refine W.adv 1 ?_
        refine W.guard true (w := ((decide (0 < x11)) == true)) (by kernel_rfl) (congrArg (fun b => b == true) (decide_eq_true h35)) ?_
        obtain ⟨h36, h37, H⟩ := H
        obtain ⟨e38, e39, e40, he41, H⟩ := H
        refine W.opS (OpIs.ixE (enc := E_api_Rat) (n := 3) (k' := .i64) (L := x5) (i := (wi (x11 - 1))) (d0 := (false, [], [])) (x := (e38, e39, e40)) (by kernel_rfl) h36 h37 he41) ?_
        refine W.guard true (w := ((decide (0 < x11)) == true)) (by kernel_rfl) (congrArg (fun b => b == true) (decide_eq_true h35)) ?_
        refine W.adv 1 ?_
        refine W.guard true (w := ((decide (0 < x11)) == true)) (by kernel_rfl) (congrArg (fun b => b == true) (decide_eq_true h35)) ?_
        obtain ⟨c42_0, c42_1, c42_2, hc43, H⟩ := H
        refine W.callR (g := 14) (ds := [(.agg [.bool e38, .ints .u64 e39, .ints .u64 e40])]) (es := [(.agg [.bool e38, .ints .u64 e39, .ints .u64 e40])]) (r := (.agg [.bool c42_0, .ints .i64 c42_1, .ints .i64 c42_2])) (by kernel_rfl) (by kernel_rfl) (Ic.args hc43 (by kernel_rfl)) (by kernel_rfl) ?_
        refine W.guard true (w := ((decide (0 < x11)) == true)) (by kernel_rfl) (congrArg (fun b => b == true) (decide_eq_true h35)) ?_
        refine W.adv 1 ?_
        refine W.guard true (w := ((decide (0 < x11)) == true)) (by kernel_rfl) (congrArg (fun b => b == true) (decide_eq_true h35)) ?_
        refine W.adv 1 ?_
        refine W.guard true (w := ((decide (0 < x11)) == true)) (by kernel_rfl) (congrArg (fun b => b == true) (decide_eq_true h35)) ?_
        obtain ⟨h44, H⟩ := H
        obtain ⟨e45, e46, e47, he48, H⟩ := H
        refine W.opS (OpIs.ixE (enc := E_api_Rat) (n := 3) (k' := .i64) (L := x5) (i := x11) (d0 := (false, [], [])) (x := (e45, e46, e47)) (by kernel_rfl) h18 h44 he48) ?_
        refine W.guard true (w := ((decide (0 < x11)) == true)) (by kernel_rfl) (congrArg (fun b => b == true) (decide_eq_true h35)) ?_
        refine W.adv 1 ?_
        refine W.guard true (w := ((decide (0 < x11)) == true)) (by kernel_rfl) (congrArg (fun b => b == true) (decide_eq_true h35)) ?_
        obtain ⟨c49_0, c49_1, c49_2, hc50, H⟩ := H
        refine W.callR (g := 14) (ds := [(.agg [.bool e45, .ints .u64 e46, .ints .u64 e47])]) (es := [(.agg [.bool e45, .ints .u64 e46, .ints .u64 e47])]) (r := (.agg [.bool c49_0, .ints .i64 c49_1, .ints .i64 c49_2])) (by kernel_rfl) (by kernel_rfl) (Ic.args hc50 (by kernel_rfl)) (by kernel_rfl) ?_
        refine W.guard true (w := ((decide (0 < x11)) == true)) (by kernel_rfl) (congrArg (fun b => b == true) (decide_eq_true h35)) ?_
        obtain ⟨c51, hc52, H⟩ := H
        refine W.callR (g := 13) (ds := [(.agg [.bool c42_0, .ints .i64 c42_1, .ints .i64 c42_2]), (.agg [.bool c49_0, .ints .i64 c49_1, .ints .i64 c49_2])]) (es := [(.agg [.bool c42_0, .ints .i64 c42_1, .ints .i64 c42_2]), (.agg [.bool c49_0, .ints .i64 c49_1, .ints .i64 c49_2])]) (r := (.int .i64 c51)) (by kernel_rfl) (by kernel_rfl) (Ic.args hc52 (by kernel_rfl)) (by kernel_rfl) ?_
        refine W.guard true (w := ((decide (0 < x11)) == true)) (by kernel_rfl) (congrArg (fun b => b == true) (decide_eq_true h35)) ?_
        refine W.adv 1 ?_
        refine W.guard true (w := ((!c32) == false)) (by kernel_rfl) (congrArg (fun b => b == false) (congrArg (fun b => !b) h34)) ?_
        refine W.opS (OpIs.pk true (t := (decide (0 < x11))) (x := (.bool (decide (0 < c51)))) (y := (.bool false)) (by kernel_rfl) (decide_eq_true h35)) ?_
        refine W.opS (OpIs.pk false (t := (!c32)) (x := (.bool true)) (y := (.bool (decide (0 < c51)))) (by kernel_rfl) (congrArg (fun b => !b) h34)) ?_
        refine W.adv 2 ?_
        rcases H with ⟨h53, H⟩ | ⟨h53, H⟩
        · refine W.cond true (w := (decide (0 < c51))) (by kernel_rfl) (decide_eq_true h53) ?_
          refine W.adv 12 ?_
          exact W.fin (x := .ret) (by kernel_rfl) (LAns.of (d := (.bool false)) (by kernel_rfl) (by rw [H]))
        · refine W.cond false (w := (decide (0 < c51))) (by kernel_rfl) (decide_eq_false h53) ?_
          refine W.adv 14 ?_
          exact W.to_loop (P := law10_FoldSorts_l1_s x3 x4 x5 x6 x9 x11 0 0 r7_0_0 r7_0_1 r7_0_2 r8_0_0 r8_0_1 r8_0_2 c23_0 c23_1 c23_2) (H ) (by kernel_rfl)
      · refine W.guard false (w := ((decide (0 < x11)) == true)) (by kernel_rfl) (congrArg (fun b => b == true) (decide_eq_false h35)) ?_
        refine W.guard false (w := ((decide (0 < x11)) == true)) (by kernel_rfl) (congrArg (fun b => b == true) (decide_eq_false h35)) ?_
        refine W.guard false (w := ((decide (0 < x11)) == true)) (by kernel_rfl) (congrArg (fun b => b == true) (decide_eq_false h35)) ?_
        refine W.guard false (w := ((decide (0 < x11)) == true)) (by kernel_rfl) (congrArg (fun b => b == true) (decide_eq_false h35)) ?_
        refine W.guard false (w := ((decide (0 < x11)) == true)) (by kernel_rfl) (congrArg (fun b => b == true) (decide_eq_false h35)) ?_
        refine W.guard false (w := ((decide (0 < x11)) == true)) (by kernel_rfl) (congrArg (fun b => b == true) (decide_eq_false h35)) ?_
        refine W.guard false (w := ((decide (0 < x11)) == true)) (by kernel_rfl) (congrArg (fun b => b == true) (decide_eq_false h35)) ?_
        refine W.guard false (w := ((decide (0 < x11)) == true)) (by kernel_rfl) (congrArg (fun b => b == true) (decide_eq_false h35)) ?_
        refine W.guard false (w := ((decide (0 < x11)) == true)) (by kernel_rfl) (congrArg (fun b => b == true) (decide_eq_false h35)) ?_
        refine W.guard false (w := ((decide (0 < x11)) == true)) (by kernel_rfl) (congrArg (fun b => b == true) (decide_eq_false h35)) ?_
        refine W.guard false (w := ((decide (0 < x11)) == true)) (by kernel_rfl) (congrArg (fun b => b == true) (decide_eq_false h35)) ?_
        refine W.guard false (w := ((decide (0 < x11)) == true)) (by kernel_rfl) (congrArg (fun b => b == true) (decide_eq_false h35)) ?_
        refine W.guard false (w := ((decide (0 < x11)) == true)) (by kernel_rfl) (congrArg (fun b => b == true) (decide_eq_false h35)) ?_
        refine W.guard true (w := ((!c32) == false)) (by kernel_rfl) (congrArg (fun b => b == false) (congrArg (fun b => !b) h34)) ?_
        refine W.opS (OpIs.pk false (t := (decide (0 < x11))) (x := (.tuple [])) (y := (.bool false)) (by kernel_rfl) (decide_eq_false h35)) ?_
        refine W.opS (OpIs.pk false (t := (!c32)) (x := (.bool true)) (y := (.bool false)) (by kernel_rfl) (congrArg (fun b => !b) h34)) ?_
        refine W.adv 17 ?_
        exact W.to_loop (P := law10_FoldSorts_l1_s x3 x4 x5 x6 x9 x11 0 0 r7_0_0 r7_0_1 r7_0_2 r8_0_0 r8_0_1 r8_0_2 c23_0 c23_1 c23_2) (H ) (by kernel_rfl)
    · refine W.guard false (w := ((!c32) == false)) (by kernel_rfl) (congrArg (fun b => b == false) (congrArg (fun b => !b) (bfalse h34))) ?_
      refine W.guard false (w := ((!c32) == false)) (by kernel_rfl) (congrArg (fun b => b == false) (congrArg (fun b => !b) (bfalse h34))) ?_
      refine W.guard false (w := ((!c32) == false)) (by kernel_rfl) (congrArg (fun b => b == false) (congrArg (fun b => !b) (bfalse h34))) ?_
      refine W.adv 13 ?_
      refine W.guard false (w := ((!c32) == false)) (by kernel_rfl) (congrArg (fun b => b == false) (congrArg (fun b => !b) (bfalse h34))) ?_
      refine W.opS (OpIs.pk true (t := (!c32)) (x := (.bool true)) (y := (.tuple [])) (by kernel_rfl) (congrArg (fun b => !b) (bfalse h34))) ?_
      refine W.adv 15 ?_
      exact W.fin (x := .ret) (by kernel_rfl) (LAns.of (d := (.bool false)) (by kernel_rfl) (by rw [H]))
  · refine W.cond false (w := (decide (x11 < (x4.length : Int)))) (by kernel_rfl) (decide_eq_false h17) ?_
    refine W.adv 10 ?_
    rcases H with ⟨h54, H⟩ | ⟨h54, H⟩
    · refine W.guard true (w := ((decide (x9 = 0)) == true)) (by kernel_rfl) (congrArg (fun b => b == true) (decide_eq_true h54)) ?_
      refine W.adv 1 ?_
      refine W.guard true (w := ((decide (x9 = 0)) == true)) (by kernel_rfl) (congrArg (fun b => b == true) (decide_eq_true h54)) ?_
      refine W.adv 1 ?_
      refine W.guard true (w := ((decide (x9 = 0)) == true)) (by kernel_rfl) (congrArg (fun b => b == true) (decide_eq_true h54)) ?_
      obtain ⟨h55, H⟩ := H
      obtain ⟨e56, e57, e58, he59, H⟩ := H
      refine W.opS (OpIs.ixE (enc := E_api_Rat) (n := 3) (k' := .i64) (L := x5) (i := 0) (d0 := (false, [], [])) (x := (e56, e57, e58)) (by kernel_rfl) (by decide) h55 he59) ?_
      refine W.guard true (w := ((decide (x9 = 0)) == true)) (by kernel_rfl) (congrArg (fun b => b == true) (decide_eq_true h54)) ?_
      refine W.adv 1 ?_
      refine W.guard true (w := ((decide (x9 = 0)) == true)) (by kernel_rfl) (congrArg (fun b => b == true) (decide_eq_true h54)) ?_
      obtain ⟨c60, hc61, H⟩ := H
      refine W.callR (g := 11) (ds := [(.agg [.bool r7_0_0, .ints .u64 r7_0_1, .ints .u64 r7_0_2]), (.agg [.bool e56, .ints .u64 e57, .ints .u64 e58])]) (es := [(.agg [.bool r7_0_0, .ints .u64 r7_0_1, .ints .u64 r7_0_2]), (.agg [.bool e56, .ints .u64 e57, .ints .u64 e58])]) (r := (.bool c60)) (by kernel_rfl) (by kernel_rfl) (Ic.args hc61 (by kernel_rfl)) (by kernel_rfl) ?_
      refine W.opS (OpIs.pk true (t := (decide (x9 = 0))) (x := (.bool c60)) (y := (.bool false)) (by kernel_rfl) (decide_eq_true h54)) ?_
      refine W.adv 1 ?_
      rcases H with ⟨h62, H⟩ | ⟨h62, H⟩
      · refine W.guard true (w := (c60 == true)) (by kernel_rfl) (congrArg (fun b => b == true) h62) ?_
        refine W.adv 1 ?_
        refine W.guard true (w := (c60 == true)) (by kernel_rfl) (congrArg (fun b => b == true) h62) ?_
        refine W.adv 1 ?_
        refine W.guard true (w := (c60 == true)) (by kernel_rfl) (congrArg (fun b => b == true) h62) ?_
        refine W.adv 1 ?_
        refine W.guard true (w := (c60 == true)) (by kernel_rfl) (congrArg (fun b => b == true) h62) ?_
        refine W.opS (OpIs.ln (n := (x5.map E_api_Rat).length) (m := x5.length) (by kernel_rfl) (by rw [List.length_map])) ?_
        refine W.guard true (w := (c60 == true)) (by kernel_rfl) (congrArg (fun b => b == true) h62) ?_
        refine W.adv 1 ?_
        refine W.guard true (w := (c60 == true)) (by kernel_rfl) (congrArg (fun b => b == true) h62) ?_
        obtain ⟨h63, h64, H⟩ := H
        obtain ⟨e65, e66, e67, he68, H⟩ := H
        refine W.opS (OpIs.ixE (enc := E_api_Rat) (n := 3) (k' := .i64) (L := x5) (i := (wi ((x5.length : Int) - 1))) (d0 := (false, [], [])) (x := (e65, e66, e67)) (by kernel_rfl) h63 h64 he68) ?_
        refine W.guard true (w := (c60 == true)) (by kernel_rfl) (congrArg (fun b => b == true) h62) ?_
        refine W.adv 1 ?_
        refine W.guard true (w := (c60 == true)) (by kernel_rfl) (congrArg (fun b => b == true) h62) ?_
        obtain ⟨c69, hc70, H⟩ := H
        refine W.callR (g := 11) (ds := [(.agg [.bool r8_0_0, .ints .u64 r8_0_1, .ints .u64 r8_0_2]), (.agg [.bool e65, .ints .u64 e66, .ints .u64 e67])]) (es := [(.agg [.bool r8_0_0, .ints .u64 r8_0_1, .ints .u64 r8_0_2]), (.agg [.bool e65, .ints .u64 e66, .ints .u64 e67])]) (r := (.bool c69)) (by kernel_rfl) (by kernel_rfl) (Ic.args hc70 (by kernel_rfl)) (by kernel_rfl) ?_
        refine W.opS (OpIs.pk true (t := c60) (x := (.bool c69)) (y := (.bool false)) (by kernel_rfl) h62) ?_
        refine W.adv 1 ?_
        rcases H with ⟨h71, H⟩ | ⟨h71, H⟩
        · refine W.guard true (w := (c69 == true)) (by kernel_rfl) (congrArg (fun b => b == true) h71) ?_
          obtain ⟨c72, hc73, H⟩ := H
          refine W.callR (g := 8) (ds := []) (es := []) (r := (.bool c72)) (by kernel_rfl) (by kernel_rfl) (Ic.args hc73 (by kernel_rfl)) (by kernel_rfl) ?_
          refine W.opS (OpIs.pk true (t := c69) (x := (.bool c72)) (y := (.bool false)) (by kernel_rfl) h71) ?_
          refine W.adv 4 ?_
          exact W.fin (x := .ret) (by kernel_rfl) (LAns.of (d := (.bool c72)) (by kernel_rfl) (by rw [H]))
        · refine W.guard false (w := (c69 == true)) (by kernel_rfl) (congrArg (fun b => b == true) (bfalse h71)) ?_
          refine W.opS (OpIs.pk false (t := c69) (x := (.tuple [])) (y := (.bool false)) (by kernel_rfl) (bfalse h71)) ?_
          refine W.adv 4 ?_
          exact W.fin (x := .ret) (by kernel_rfl) (LAns.of (d := (.bool false)) (by kernel_rfl) (by rw [H]))
      · refine W.guard false (w := (c60 == true)) (by kernel_rfl) (congrArg (fun b => b == true) (bfalse h62)) ?_
        refine W.guard false (w := (c60 == true)) (by kernel_rfl) (congrArg (fun b => b == true) (bfalse h62)) ?_
        refine W.guard false (w := (c60 == true)) (by kernel_rfl) (congrArg (fun b => b == true) (bfalse h62)) ?_
        refine W.guard false (w := (c60 == true)) (by kernel_rfl) (congrArg (fun b => b == true) (bfalse h62)) ?_
        refine W.guard false (w := (c60 == true)) (by kernel_rfl) (congrArg (fun b => b == true) (bfalse h62)) ?_
        refine W.guard false (w := (c60 == true)) (by kernel_rfl) (congrArg (fun b => b == true) (bfalse h62)) ?_
        refine W.guard false (w := (c60 == true)) (by kernel_rfl) (congrArg (fun b => b == true) (bfalse h62)) ?_
        refine W.guard false (w := (c60 == true)) (by kernel_rfl) (congrArg (fun b => b == true) (bfalse h62)) ?_
        refine W.opS (OpIs.pk false (t := c60) (x := (.tuple [])) (y := (.bool false)) (by kernel_rfl) (bfalse h62)) ?_
        refine W.adv 7 ?_
        exact W.fin (x := .ret) (by kernel_rfl) (LAns.of (d := (.bool false)) (by kernel_rfl) (by rw [H]))
    · refine W.guard false (w := ((decide (x9 = 0)) == true)) (by kernel_rfl) (congrArg (fun b => b == true) (decide_eq_false h54)) ?_
      refine W.guard false (w := ((decide (x9 = 0)) == true)) (by kernel_rfl) (congrArg (fun b => b == true) (decide_eq_false h54)) ?_
      refine W.guard false (w := ((decide (x9 = 0)) == true)) (by kernel_rfl) (congrArg (fun b => b == true) (decide_eq_false h54)) ?_
      refine W.guard false (w := ((decide (x9 = 0)) == true)) (by kernel_rfl) (congrArg (fun b => b == true) (decide_eq_false h54)) ?_
      refine W.guard false (w := ((decide (x9 = 0)) == true)) (by kernel_rfl) (congrArg (fun b => b == true) (decide_eq_false h54)) ?_
      refine W.opS (OpIs.pk false (t := (decide (x9 = 0))) (x := (.tuple [])) (y := (.bool false)) (by kernel_rfl) (decide_eq_false h54)) ?_
      refine W.adv 17 ?_
      exact W.fin (x := .ret) (by kernel_rfl) (LAns.of (d := (.bool false)) (by kernel_rfl) (by rw [H]))
theorem law10_FoldSorts_l1_go {x3 : List T_api_Rat} {x4 : List T_ref08_Q} {x5 : List T_api_Rat} {x6 : List T_api_Rat} {x9 : Int} {x11 : Int} {x12 : Int} {x13 : Int} {r7_0_0 : Bool} {r7_0_1 : List Int} {r7_0_2 : List Int} {r8_0_0 : Bool} {r8_0_1 : List Int} {r8_0_2 : List Int} {r10_0_0 : Bool} {r10_0_1 : List Int} {r10_0_2 : List Int} {z : Bool} (H : ((x13 < (x4.length : Int) ∧ (0 ≤ x13 ∧ (x13 < (x5.length : Int) ∧ (∃ e77 : Bool, (∃ e78 : List Int, (∃ e79 : List Int, (x5.getD (x13).toNat (false, [], []) = (e77, e78, e79) ∧ (0 ≤ x11 ∧ (x11 < (x4.length : Int) ∧ (∃ e83 : Bool, (∃ e84 : List Int, (∃ e85 : List Int, (x4.getD (x11).toNat (false, [], []) = (e83, e84, e85) ∧ (∃ c87_0 : Bool, (∃ c87_1 : List Int, (∃ c87_2 : List Int, (ref08_Back_R e83 e84 e85 c87_0 c87_1 c87_2 ∧ (∃ c89 : Bool, (ref08_Same_R e77 e78 e79 c87_0 c87_1 c87_2 c89 ∧ ((c89 = true ∧ (x13 < (x3.length : Int) ∧ (∃ e93 : Bool, (∃ e94 : List Int, (∃ e95 : List Int, (x3.getD (x13).toNat (false, [], []) = (e93, e94, e95) ∧ (x11 < (x3.length : Int) ∧ (∃ e98 : Bool, (∃ e99 : List Int, (∃ e100 : List Int, (x3.getD (x11).toNat (false, [], []) = (e98, e99, e100) ∧ (∃ c102 : Bool, (ref08_Same_R e93 e94 e95 e98 e99 e100 c102 ∧ ((c102 = true ∧ (law10_FoldSorts_l1 x3 x4 x5 x6 x9 x11 (wi ((wi (x12 + 1)) - 1)) (wi (x13 + 1)) r7_0_0 r7_0_1 r7_0_2 r8_0_0 r8_0_1 r8_0_2 r10_0_0 r10_0_1 r10_0_2 z)) ∨ (¬ c102 = true ∧ (law10_FoldSorts_l1 x3 x4 x5 x6 x9 x11 (wi (x12 + 1)) (wi (x13 + 1)) r7_0_0 r7_0_1 r7_0_2 r8_0_0 r8_0_1 r8_0_2 r10_0_0 r10_0_1 r10_0_2 z)))))))))))))))) ∨ (¬ c89 = true ∧ (x13 < (x3.length : Int) ∧ (∃ e106 : Bool, (∃ e107 : List Int, (∃ e108 : List Int, (x3.getD (x13).toNat (false, [], []) = (e106, e107, e108) ∧ (x11 < (x3.length : Int) ∧ (∃ e111 : Bool, (∃ e112 : List Int, (∃ e113 : List Int, (x3.getD (x11).toNat (false, [], []) = (e111, e112, e113) ∧ (∃ c115 : Bool, (ref08_Same_R e106 e107 e108 e111 e112 e113 c115 ∧ ((c115 = true ∧ (law10_FoldSorts_l1 x3 x4 x5 x6 x9 x11 (wi (x12 - 1)) (wi (x13 + 1)) r7_0_0 r7_0_1 r7_0_2 r8_0_0 r8_0_1 r8_0_2 r10_0_0 r10_0_1 r10_0_2 z)) ∨ (¬ c115 = true ∧ (law10_FoldSorts_l1 x3 x4 x5 x6 x9 x11 x12 (wi (x13 + 1)) r7_0_0 r7_0_1 r7_0_2 r8_0_0 r8_0_1 r8_0_2 r10_0_0 r10_0_1 r10_0_2 z)))))))))))))))))))))))))))))))))))) ∨ (¬ x13 < (x4.length : Int) ∧ ((x12 = 0 ∧ (law10_FoldSorts_l0 x3 x4 x5 x6 x9 (wi (x11 + 1)) r7_0_0 r7_0_1 r7_0_2 r8_0_0 r8_0_1 r8_0_2 r10_0_0 r10_0_1 r10_0_2 z)) ∨ (¬ x12 = 0 ∧ (z = false)))))) : law10_FoldSorts_l1 x3 x4 x5 x6 x9 x11 x12 x13 r7_0_0 r7_0_1 r7_0_2 r8_0_0 r8_0_1 r8_0_2 r10_0_0 r10_0_1 r10_0_2 z := by
  intro j jb vs
  refine W.adv 1 ?_
  refine W.adv 5 ?_
  refine W.opS (OpIs.ln (n := (x4.map E_ref08_Q).length) (m := x4.length) (by kernel_rfl) (by rw [List.length_map])) ?_
  refine W.adv 3 ?_
  rcases H with ⟨h74, H⟩ | ⟨h74, H⟩
  · refine W.cond true (w := (decide (x13 < (x4.length : Int)))) (by kernel_rfl) (decide_eq_true h74) ?_
    refine W.adv 9 ?_
    obtain ⟨h75, h76, H⟩ := H
    obtain ⟨e77, e78, e79, he80, H⟩ := H
    refine W.opS (OpIs.ixE (enc := E_api_Rat) (n := 3) (k' := .i64) (L := x5) (i := x13) (d0 := (false, [], [])) (x := (e77, e78, e79)) (by kernel_rfl) h75 h76 he80) ?_
    refine W.adv 3 ?_
    obtain ⟨h81, h82, H⟩ := H
    obtain ⟨e83, e84, e85, he86, H⟩ := H
    refine W.opS (OpIs.ixE (enc := E_ref08_Q) (n := 3) (k' := .i64) (L := x4) (i := x11) (d0 := (false, [], [])) (x := (e83, e84, e85)) (by kernel_rfl) h81 h82 he86) ?_
    refine W.adv 1 ?_
    obtain ⟨c87_0, c87_1, c87_2, hc88, H⟩ := H
    refine W.callR (g := 12) (ds := [(.agg [.bool e83, .ints .i64 e84, .ints .i64 e85])]) (es := [(.agg [.bool e83, .ints .i64 e84, .ints .i64 e85])]) (r := (.agg [.bool c87_0, .ints .u64 c87_1, .ints .u64 c87_2])) (by kernel_rfl) (by kernel_rfl) (Ic.args hc88 (by kernel_rfl)) (by kernel_rfl) ?_
    obtain ⟨c89, hc90, H⟩ := H
    refine W.callR (g := 11) (ds := [(.agg [.bool e77, .ints .u64 e78, .ints .u64 e79]), (.agg [.bool c87_0, .ints .u64 c87_1, .ints .u64 c87_2])]) (es := [(.agg [.bool e77, .ints .u64 e78, .ints .u64 e79]), (.agg [.bool c87_0, .ints .u64 c87_1, .ints .u64 c87_2])]) (r := (.bool c89)) (by kernel_rfl) (by kernel_rfl) (Ic.args hc90 (by kernel_rfl)) (by kernel_rfl) ?_
    refine W.adv 2 ?_
    rcases H with ⟨h91, H⟩ | ⟨h91, H⟩
    · refine W.cond true (w := c89) (by kernel_rfl) h91 ?_
      refine W.adv 10 ?_
      obtain ⟨h92, H⟩ := H
      obtain ⟨e93, e94, e95, he96, H⟩ := H
      refine W.opS (OpIs.ixE (enc := E_api_Rat) (n := 3) (k' := .i64) (L := x3) (i := x13) (d0 := (false, [], [])) (x := (e93, e94, e95)) (by kernel_rfl) h75 h92 he96) ?_
      refine W.adv 3 ?_
      obtain ⟨h97, H⟩ := H
      obtain ⟨e98, e99, e100, he101, H⟩ := H
      refine W.opS (OpIs.ixE (enc := E_api_Rat) (n := 3) (k' := .i64) (L := x3) (i := x11) (d0 := (false, [], [])) (x := (e98, e99, e100)) (by kernel_rfl) h81 h97 he101) ?_
      refine W.adv 1 ?_
      obtain ⟨c102, hc103, H⟩ := H
      refine W.callR (g := 11) (ds := [(.agg [.bool e93, .ints .u64 e94, .ints .u64 e95]), (.agg [.bool e98, .ints .u64 e99, .ints .u64 e100])]) (es := [(.agg [.bool e93, .ints .u64 e94, .ints .u64 e95]), (.agg [.bool e98, .ints .u64 e99, .ints .u64 e100])]) (r := (.bool c102)) (by kernel_rfl) (by kernel_rfl) (Ic.args hc103 (by kernel_rfl)) (by kernel_rfl) ?_
      refine W.adv 2 ?_
      rcases H with ⟨h104, H⟩ | ⟨h104, H⟩
      · refine W.cond true (w := c102) (by kernel_rfl) h104 ?_
        refine W.adv 13 ?_
        exact W.to_loop (P := law10_FoldSorts_l1_s x3 x4 x5 x6 x9 x11 (wi ((wi (x12 + 1)) - 1)) (wi (x13 + 1)) r7_0_0 r7_0_1 r7_0_2 r8_0_0 r8_0_1 r8_0_2 r10_0_0 r10_0_1 r10_0_2) (H ) (by kernel_rfl)
      · refine W.cond false (w := c102) (by kernel_rfl) (bfalse h104) ?_
        refine W.adv 9 ?_
        exact W.to_loop (P := law10_FoldSorts_l1_s x3 x4 x5 x6 x9 x11 (wi (x12 + 1)) (wi (x13 + 1)) r7_0_0 r7_0_1 r7_0_2 r8_0_0 r8_0_1 r8_0_2 r10_0_0 r10_0_1 r10_0_2) (H ) (by kernel_rfl)
    · refine W.cond false (w := c89) (by kernel_rfl) (bfalse h91) ?_
      refine W.adv 6 ?_
      obtain ⟨h105, H⟩ := H
      obtain ⟨e106, e107, e108, he109, H⟩ := H
      refine W.opS (OpIs.ixE (enc := E_api_Rat) (n := 3) (k' := .i64) (L := x3) (i := x13) (d0 := (false, [], [])) (x := (e106, e107, e108)) (by kernel_rfl) h75 h105 he109) ?_
      refine W.adv 3 ?_
      obtain ⟨h110, H⟩ := H
      obtain ⟨e111, e112, e113, he114, H⟩ := H
      refine W.opS (OpIs.ixE (enc := E_api_Rat) (n := 3) (k' := .i64) (L := x3) (i := x11) (d0 := (false, [], [])) (x := (e111, e112, e113)) (by kernel_rfl) h81 h110 he114) ?_
      refine W.adv 1 ?_
      obtain ⟨c115, hc116, H⟩ := H
      refine W.callR (g := 11) (ds := [(.agg [.bool e106, .ints .u64 e107, .ints .u64 e108]), (.agg [.bool e111, .ints .u64 e112, .ints .u64 e113])]) (es := [(.agg [.bool e106, .ints .u64 e107, .ints .u64 e108]), (.agg [.bool e111, .ints .u64 e112, .ints .u64 e113])]) (r := (.bool c115)) (by kernel_rfl) (by kernel_rfl) (Ic.args hc116 (by kernel_rfl)) (by kernel_rfl) ?_
      refine W.adv 2 ?_
      rcases H with ⟨h117, H⟩ | ⟨h117, H⟩
      · refine W.cond true (w := c115) (by kernel_rfl) h117 ?_
        refine W.adv 13 ?_
        exact W.to_loop (P := law10_FoldSorts_l1_s x3 x4 x5 x6 x9 x11 (wi (x12 - 1)) (wi (x13 + 1)) r7_0_0 r7_0_1 r7_0_2 r8_0_0 r8_0_1 r8_0_2 r10_0_0 r10_0_1 r10_0_2) (H ) (by kernel_rfl)
      · refine W.cond false (w := c115) (by kernel_rfl) (bfalse h117) ?_
        refine W.adv 9 ?_
        exact W.to_loop (P := law10_FoldSorts_l1_s x3 x4 x5 x6 x9 x11 x12 (wi (x13 + 1)) r7_0_0 r7_0_1 r7_0_2 r8_0_0 r8_0_1 r8_0_2 r10_0_0 r10_0_1 r10_0_2) (H ) (by kernel_rfl)
  · refine W.cond false (w := (decide (x13 < (x4.length : Int)))) (by kernel_rfl) (decide_eq_false h74) ?_
    refine W.adv 11 ?_
    rcases H with ⟨h118, H⟩ | ⟨h118, H⟩
    · refine W.cond false (w := (!(decide (x12 = 0)))) (by kernel_rfl) (congrArg (fun b => !b) (decide_eq_true h118)) ?_
      refine W.adv 9 ?_
      exact W.to_loop (P := law10_FoldSorts_l0_s x3 x4 x5 x6 x9 (wi (x11 + 1)) r7_0_0 r7_0_1 r7_0_2 r8_0_0 r8_0_1 r8_0_2 r10_0_0 r10_0_1 r10_0_2) (H ) (by kernel_rfl)
    · refine W.cond true (w := (!(decide (x12 = 0)))) (by kernel_rfl) (congrArg (fun b => !b) (decide_eq_false h118)) ?_
      refine W.adv 11 ?_
      exact W.fin (x := .ret) (by kernel_rfl) (LAns.of (d := (.bool false)) (by kernel_rfl) (by rw [H]))
theorem law10_FoldSorts_go {a0 : List T_api_Rat} {z : Bool} (H : (∃ c1t0 : List T_api_Rat, (∃ c1t1 : List T_ref08_Q, (law10_few_R a0 c1t0 c1t1 ∧ (∃ c3 : List T_api_Rat, (fold_Sorted_R c1t0 c3 ∧ (∃ c5 : List T_api_Rat, (fold_Running_R c1t0 c5 ∧ (∃ c7t0_0 : Bool, (∃ c7t0_1 : List Int, (∃ c7t0_2 : List Int, (∃ c7t1_0 : Bool, (∃ c7t1_1 : List Int, (∃ c7t1_2 : List Int, (∃ c7t2 : Int, (fold_Bounds_R c1t0 c7t0_0 c7t0_1 c7t0_2 c7t1_0 c7t1_1 c7t1_2 c7t2 ∧ (((c3.length : Int) = (c1t1.length : Int) ∧ (((c5.length : Int) = (c1t1.length : Int) ∧ (((c1t1.length : Int) = 0 ∧ ((c7t2 = 9 ∧ (∃ c13 : Bool, (law10_works_R c13 ∧ (z = c13)))) ∨ (¬ c7t2 = 9 ∧ (z = false)))) ∨ (¬ (c1t1.length : Int) = 0 ∧ (∃ c15_0 : Bool, (∃ c15_1 : List Int, (∃ c15_2 : List Int, (ref08_Num_R 0 1 c15_0 c15_1 c15_2 ∧ (law10_FoldSorts_l0 c1t0 c1t1 c3 c5 c7t2 0 c7t0_0 c7t0_1 c7t0_2 c7t1_0 c7t1_1 c7t1_2 c15_0 c15_1 c15_2 z)))))))) ∨ (¬ (c5.length : Int) = (c1t1.length : Int) ∧ (z = false)))) ∨ (¬ (c3.length : Int) = (c1t1.length : Int) ∧ (z = false))))))))))))))))))) : law10_FoldSorts_R a0 z := by
  refine W.lawIs (zs := [(.list 3 (a0.map E_api_Rat))]) Tryz.func3 (by kernel_rfl) (by kernel_rfl) (by kernel_rfl) ?_
  refine W.adv 8 ?_
  obtain ⟨c1t0, c1t1, hc2, H⟩ := H
  refine W.callR (g := 4) (ds := [(.list 3 (a0.map E_api_Rat))]) (es := [(.list 3 (a0.map E_api_Rat))]) (r := (.tuple [(.list 3 (c1t0.map E_api_Rat)), (.list 3 (c1t1.map E_ref08_Q))])) (by kernel_rfl) (by kernel_rfl) (Ic.args hc2 (by kernel_rfl)) (by kernel_rfl) ?_
  refine W.adv 10 ?_
  obtain ⟨c3, hc4, H⟩ := H
  refine W.callR (g := 5) (ds := [(.list 3 (c1t0.map E_api_Rat))]) (es := [(.list 3 (c1t0.map E_api_Rat))]) (r := (.list 3 (c3.map E_api_Rat))) (by kernel_rfl) (by kernel_rfl) (Ic.args hc4 (by kernel_rfl)) (by kernel_rfl) ?_
  refine W.adv 1 ?_
  obtain ⟨c5, hc6, H⟩ := H
  refine W.callR (g := 6) (ds := [(.list 3 (c1t0.map E_api_Rat))]) (es := [(.list 3 (c1t0.map E_api_Rat))]) (r := (.list 3 (c5.map E_api_Rat))) (by kernel_rfl) (by kernel_rfl) (Ic.args hc6 (by kernel_rfl)) (by kernel_rfl) ?_
  refine W.adv 7 ?_
  obtain ⟨c7t0_0, c7t0_1, c7t0_2, c7t1_0, c7t1_1, c7t1_2, c7t2, hc8, H⟩ := H
  refine W.callR (g := 7) (ds := [(.list 3 (c1t0.map E_api_Rat))]) (es := [(.list 3 (c1t0.map E_api_Rat))]) (r := (.tuple [(.agg [.bool c7t0_0, .ints .u64 c7t0_1, .ints .u64 c7t0_2]), (.agg [.bool c7t1_0, .ints .u64 c7t1_1, .ints .u64 c7t1_2]), .int .i64 c7t2])) (by kernel_rfl) (by kernel_rfl) (Ic.args hc8 (by kernel_rfl)) (by kernel_rfl) ?_
  refine W.adv 15 ?_
  refine W.opS (OpIs.ln (n := (c3.map E_api_Rat).length) (m := c3.length) (by kernel_rfl) (by rw [List.length_map])) ?_
  refine W.adv 1 ?_
  refine W.opS (OpIs.ln (n := (c1t1.map E_ref08_Q).length) (m := c1t1.length) (by kernel_rfl) (by rw [List.length_map])) ?_
  refine W.adv 2 ?_
  rcases H with ⟨h9, H⟩ | ⟨h9, H⟩
  · refine W.guard true (w := ((!(decide ((c3.length : Int) = (c1t1.length : Int)))) == false)) (by kernel_rfl) (congrArg (fun b => b == false) (congrArg (fun b => !b) (decide_eq_true h9))) ?_
    refine W.adv 1 ?_
    refine W.guard true (w := ((!(decide ((c3.length : Int) = (c1t1.length : Int)))) == false)) (by kernel_rfl) (congrArg (fun b => b == false) (congrArg (fun b => !b) (decide_eq_true h9))) ?_
    refine W.opS (OpIs.ln (n := (c5.map E_api_Rat).length) (m := c5.length) (by kernel_rfl) (by rw [List.length_map])) ?_
    refine W.guard true (w := ((!(decide ((c3.length : Int) = (c1t1.length : Int)))) == false)) (by kernel_rfl) (congrArg (fun b => b == false) (congrArg (fun b => !b) (decide_eq_true h9))) ?_
    refine W.adv 1 ?_
    refine W.guard true (w := ((!(decide ((c3.length : Int) = (c1t1.length : Int)))) == false)) (by kernel_rfl) (congrArg (fun b => b == false) (congrArg (fun b => !b) (decide_eq_true h9))) ?_
    refine W.opS (OpIs.ln (n := (c1t1.map E_ref08_Q).length) (m := c1t1.length) (by kernel_rfl) (by rw [List.length_map])) ?_
    refine W.guard true (w := ((!(decide ((c3.length : Int) = (c1t1.length : Int)))) == false)) (by kernel_rfl) (congrArg (fun b => b == false) (congrArg (fun b => !b) (decide_eq_true h9))) ?_
    refine W.adv 1 ?_
    refine W.opS (OpIs.pk false (t := (!(decide ((c3.length : Int) = (c1t1.length : Int))))) (x := (.bool true)) (y := (.bool (!(decide ((c5.length : Int) = (c1t1.length : Int)))))) (by kernel_rfl) (congrArg (fun b => !b) (decide_eq_true h9))) ?_
    refine W.adv 2 ?_
    rcases H with ⟨h10, H⟩ | ⟨h10, H⟩
    · refine W.cond false (w := (!(decide ((c5.length : Int) = (c1t1.length : Int))))) (by kernel_rfl) (congrArg (fun b => !b) (decide_eq_true h10)) ?_
      refine W.adv 6 ?_
      refine W.opS (OpIs.ln (n := (c1t1.map E_ref08_Q).length) (m := c1t1.length) (by kernel_rfl) (by rw [List.length_map])) ?_
      refine W.adv 3 ?_
      rcases H with ⟨h11, H⟩ | ⟨h11, H⟩
      · refine W.cond true (w := (decide ((c1t1.length : Int) = 0))) (by kernel_rfl) (decide_eq_true h11) ?_
        refine W.adv 5 ?_
        rcases H with ⟨h12, H⟩ | ⟨h12, H⟩
        · refine W.guard true (w := ((decide (c7t2 = 9)) == true)) (by kernel_rfl) (congrArg (fun b => b == true) (decide_eq_true h12)) ?_
          obtain ⟨c13, hc14, H⟩ := H
          refine W.callR (g := 8) (ds := []) (es := []) (r := (.bool c13)) (by kernel_rfl) (by kernel_rfl) (Ic.args hc14 (by kernel_rfl)) (by kernel_rfl) ?_
          refine W.opS (OpIs.pk true (t := (decide (c7t2 = 9))) (x := (.bool c13)) (y := (.bool false)) (by kernel_rfl) (decide_eq_true h12)) ?_
          refine W.adv 5 ?_
          exact W.fin (x := .ret) (by kernel_rfl) (LAns.of (d := (.bool c13)) (by kernel_rfl) (by rw [H]))
        · refine W.guard false (w := ((decide (c7t2 = 9)) == true)) (by kernel_rfl) (congrArg (fun b => b == true) (decide_eq_false h12)) ?_
          refine W.opS (OpIs.pk false (t := (decide (c7t2 = 9))) (x := (.tuple [])) (y := (.bool false)) (by kernel_rfl) (decide_eq_false h12)) ?_
          refine W.adv 5 ?_
          exact W.fin (x := .ret) (by kernel_rfl) (LAns.of (d := (.bool false)) (by kernel_rfl) (by rw [H]))
      · refine W.cond false (w := (decide ((c1t1.length : Int) = 0))) (by kernel_rfl) (decide_eq_false h11) ?_
        refine W.adv 4 ?_
        obtain ⟨c15_0, c15_1, c15_2, hc16, H⟩ := H
        refine W.callR (g := 9) (ds := [.int .i64 0, .int .i64 1]) (es := [.int .i64 0, .int .i64 1]) (r := (.agg [.bool c15_0, .ints .i64 c15_1, .ints .i64 c15_2])) (by kernel_rfl) (by kernel_rfl) (Ic.args hc16 (by kernel_rfl)) (by kernel_rfl) ?_
        refine W.adv 11 ?_
        exact W.to_loop (P := law10_FoldSorts_l0_s c1t0 c1t1 c3 c5 c7t2 0 c7t0_0 c7t0_1 c7t0_2 c7t1_0 c7t1_1 c7t1_2 c15_0 c15_1 c15_2) (H ) (by kernel_rfl)
    · refine W.cond true (w := (!(decide ((c5.length : Int) = (c1t1.length : Int))))) (by kernel_rfl) (congrArg (fun b => !b) (decide_eq_false h10)) ?_
      refine W.adv 7 ?_
      exact W.fin (x := .ret) (by kernel_rfl) (LAns.of (d := (.bool false)) (by kernel_rfl) (by rw [H]))
  · refine W.guard false (w := ((!(decide ((c3.length : Int) = (c1t1.length : Int)))) == false)) (by kernel_rfl) (congrArg (fun b => b == false) (congrArg (fun b => !b) (decide_eq_false h9))) ?_
    refine W.guard false (w := ((!(decide ((c3.length : Int) = (c1t1.length : Int)))) == false)) (by kernel_rfl) (congrArg (fun b => b == false) (congrArg (fun b => !b) (decide_eq_false h9))) ?_
    refine W.guard false (w := ((!(decide ((c3.length : Int) = (c1t1.length : Int)))) == false)) (by kernel_rfl) (congrArg (fun b => b == false) (congrArg (fun b => !b) (decide_eq_false h9))) ?_
    refine W.guard false (w := ((!(decide ((c3.length : Int) = (c1t1.length : Int)))) == false)) (by kernel_rfl) (congrArg (fun b => b == false) (congrArg (fun b => !b) (decide_eq_false h9))) ?_
    refine W.guard false (w := ((!(decide ((c3.length : Int) = (c1t1.length : Int)))) == false)) (by kernel_rfl) (congrArg (fun b => b == false) (congrArg (fun b => !b) (decide_eq_false h9))) ?_
    refine W.opS (OpIs.pk true (t := (!(decide ((c3.length : Int) = (c1t1.length : Int))))) (x := (.bool true)) (y := (.tuple [])) (by kernel_rfl) (congrArg (fun b => !b) (decide_eq_false h9))) ?_
    refine W.adv 10 ?_
    exact W.fin (x := .ret) (by kernel_rfl) (LAns.of (d := (.bool false)) (by kernel_rfl) (by rw [H]))
end Go.Proofs.YtmdgdgfhgaeddaaGreatA
