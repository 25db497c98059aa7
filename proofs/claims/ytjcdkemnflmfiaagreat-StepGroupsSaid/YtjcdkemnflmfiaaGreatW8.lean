/- Walks through the functions: what makes each relation true. -/
import Derived.Test.YtjcdkemnflmfiaaGreatW0
set_option linter.unusedVariables false
set_option maxRecDepth 100000
namespace Go.Proofs.YtjcdkemnflmfiaaGreatA
open Go Go.Proofs
noncomputable def fold_Shares_l0_s (x15 : List Int) (x16 : Int) (x17 : Int) (j : Nat → D) (jb : Nat → Blk) (vs : Nat → Nat) : Cf := cfAt Tryz.f59 [1, 1, 1, 0, 1, 0] ⟨[j 0, j 1, j 2, j 3, .nilS, j 5, j 6, j 7, j 8, j 9, j 10, j 11, j 12, j 13, j 14, .ints .i64 x15, .int .i64 x16, .int .i64 x17, j 18, j 19, j 20, j 21, j 22, j 23, j 24, j 25, j 26, j 27, j 28, j 29, j 30, j 31, j 32, j 33, j 34, j 35, j 36, j 37, j 38, j 39, j 40, j 41, j 42, j 43, j 44, j 45, j 46, j 47, j 48, j 49, j 50, j 51, j 52], [jb 0, jb 1, jb 2, jb 3, jb 4, jb 5, jb 6, jb 7, jb 8, jb 9, jb 10, jb 11, jb 12, jb 13, jb 14, jb 15, jb 16, jb 17, jb 18, jb 19, jb 20, jb 21, jb 22, jb 23, jb 24, jb 25, jb 26, jb 27, jb 28, jb 29, jb 30, jb 31, jb 32, jb 33, jb 34, jb 35, jb 36, jb 37, jb 38, jb 39, jb 40, jb 41, jb 42, jb 43, jb 44, jb 45, jb 46, jb 47, jb 48, jb 49, jb 50, jb 51, jb 52]⟩
def fold_Shares_l0 (x15 : List Int) (x16 : Int) (x17 : Int) (zt0 : List T_api_Rat) (zt1 : Int) : Prop := ∀ j jb vs, W C F 59 0 (fold_Shares_l0_s x15 x16 x17  j jb vs) (Ans C Tryz.f59 (.tuple [(.list 3 (zt0.map E_api_Rat)), .int .i64 zt1]))
noncomputable def fold_Shares_l1_s (x15 : List Int) (x16 : Int) (x17 : Int) (r27 : List T_api_Rat) (n27 : Nat) (j : Nat → D) (jb : Nat → Blk) (vs : Nat → Nat) : Cf := cfAt Tryz.f59 [1, 1, 1, 0, 1, 0] ⟨[j 0, j 1, j 2, j 3, (.sref 27 ((vs 27) + 1) 3 0 n27), j 5, j 6, j 7, j 8, j 9, j 10, j 11, j 12, j 13, j 14, .ints .i64 x15, .int .i64 x16, .int .i64 x17, j 18, j 19, j 20, j 21, j 22, j 23, j 24, j 25, j 26, j 27, j 28, j 29, j 30, j 31, j 32, j 33, j 34, j 35, j 36, j 37, j 38, j 39, j 40, j 41, j 42, j 43, j 44, j 45, j 46, j 47, j 48, j 49, j 50, j 51, j 52], [jb 0, jb 1, jb 2, jb 3, jb 4, jb 5, jb 6, jb 7, jb 8, jb 9, jb 10, jb 11, jb 12, jb 13, jb 14, jb 15, jb 16, jb 17, jb 18, jb 19, jb 20, jb 21, jb 22, jb 23, jb 24, jb 25, jb 26, ⟨((vs 27) + 1), false, .rows 3 (r27.map E_api_Rat)⟩, jb 28, jb 29, jb 30, jb 31, jb 32, jb 33, jb 34, jb 35, jb 36, jb 37, jb 38, jb 39, jb 40, jb 41, jb 42, jb 43, jb 44, jb 45, jb 46, jb 47, jb 48, jb 49, jb 50, jb 51, jb 52]⟩
def fold_Shares_l1 (x15 : List Int) (x16 : Int) (x17 : Int) (r27 : List T_api_Rat) (zt0 : List T_api_Rat) (zt1 : Int) : Prop := ∀ n27, n27 = r27.length → ∀ j jb vs, W C F 59 0 (fold_Shares_l1_s x15 x16 x17 r27 n27 j jb vs) (Ans C Tryz.f59 (.tuple [(.list 3 (zt0.map E_api_Rat)), .int .i64 zt1]))
noncomputable def fold_Shares_l2_s (x32 : Int) (x33 : Int) (r7_0_0 : Bool) (r7_0_1 : List Int) (r7_0_2 : List Int) (j : Nat → D) (jb : Nat → Blk) (vs : Nat → Nat) : Cf := cfAt Tryz.f59 [1, 1, 1, 1, 1, 0, 1, 0] ⟨[j 0, j 1, j 2, j 3, .nilS, j 5, j 6, (.pref 7 ((vs 7) + 1) 0 0), j 8, j 9, j 10, j 11, j 12, j 13, j 14, j 15, j 16, j 17, j 18, j 19, j 20, j 21, j 22, j 23, j 24, j 25, j 26, j 27, j 28, j 29, j 30, .nilS, .int .i64 x32, .int .i64 x33, j 34, j 35, j 36, j 37, j 38, j 39, j 40, j 41, j 42, j 43, j 44, j 45, j 46, j 47, j 48, j 49, j 50, j 51, j 52], [jb 0, jb 1, jb 2, jb 3, jb 4, jb 5, jb 6, ⟨((vs 7) + 1), false, .rows 3 [(.agg [.bool r7_0_0, .ints .u64 r7_0_1, .ints .u64 r7_0_2])]⟩, jb 8, jb 9, jb 10, jb 11, jb 12, jb 13, jb 14, jb 15, jb 16, jb 17, jb 18, jb 19, jb 20, jb 21, jb 22, jb 23, jb 24, jb 25, jb 26, jb 27, jb 28, jb 29, jb 30, jb 31, jb 32, jb 33, jb 34, jb 35, jb 36, jb 37, jb 38, jb 39, jb 40, jb 41, jb 42, jb 43, jb 44, jb 45, jb 46, jb 47, jb 48, jb 49, jb 50, jb 51, jb 52]⟩
def fold_Shares_l2 (x32 : Int) (x33 : Int) (r7_0_0 : Bool) (r7_0_1 : List Int) (r7_0_2 : List Int) (zt0 : List T_api_Rat) (zt1 : Int) : Prop := ∀ j jb vs, W C F 59 0 (fold_Shares_l2_s x32 x33 r7_0_0 r7_0_1 r7_0_2  j jb vs) (Ans C Tryz.f59 (.tuple [(.list 3 (zt0.map E_api_Rat)), .int .i64 zt1]))
noncomputable def fold_Shares_l3_s (x32 : Int) (x33 : Int) (r7_0_0 : Bool) (r7_0_1 : List Int) (r7_0_2 : List Int) (r27 : List T_api_Rat) (n27 : Nat) (j : Nat → D) (jb : Nat → Blk) (vs : Nat → Nat) : Cf := cfAt Tryz.f59 [1, 1, 1, 1, 1, 0, 1, 0] ⟨[j 0, j 1, j 2, j 3, (.sref 27 ((vs 27) + 1) 3 0 n27), j 5, j 6, (.pref 7 ((vs 7) + 1) 0 0), j 8, j 9, j 10, j 11, j 12, j 13, j 14, j 15, j 16, j 17, j 18, j 19, j 20, j 21, j 22, j 23, j 24, j 25, j 26, j 27, j 28, j 29, j 30, (.sref 27 ((vs 27) + 1) 3 0 n27), .int .i64 x32, .int .i64 x33, j 34, j 35, j 36, j 37, j 38, j 39, j 40, j 41, j 42, j 43, j 44, j 45, j 46, j 47, j 48, j 49, j 50, j 51, j 52], [jb 0, jb 1, jb 2, jb 3, jb 4, jb 5, jb 6, ⟨((vs 7) + 1), false, .rows 3 [(.agg [.bool r7_0_0, .ints .u64 r7_0_1, .ints .u64 r7_0_2])]⟩, jb 8, jb 9, jb 10, jb 11, jb 12, jb 13, jb 14, jb 15, jb 16, jb 17, jb 18, jb 19, jb 20, jb 21, jb 22, jb 23, jb 24, jb 25, jb 26, ⟨((vs 27) + 1), false, .rows 3 (r27.map E_api_Rat)⟩, jb 28, jb 29, jb 30, jb 31, jb 32, jb 33, jb 34, jb 35, jb 36, jb 37, jb 38, jb 39, jb 40, jb 41, jb 42, jb 43, jb 44, jb 45, jb 46, jb 47, jb 48, jb 49, jb 50, jb 51, jb 52, jb 53, jb 54, jb 55, jb 56, jb 57, jb 58, jb 59, jb 60, jb 61, jb 62, jb 63, jb 64, jb 65, jb 66, jb 67, jb 68, jb 69, jb 70]⟩
def fold_Shares_l3 (x32 : Int) (x33 : Int) (r7_0_0 : Bool) (r7_0_1 : List Int) (r7_0_2 : List Int) (r27 : List T_api_Rat) (zt0 : List T_api_Rat) (zt1 : Int) : Prop := ∀ n27, n27 = r27.length → ∀ j jb vs, W C F 59 0 (fold_Shares_l3_s x32 x33 r7_0_0 r7_0_1 r7_0_2 r27 n27 j jb vs) (Ans C Tryz.f59 (.tuple [(.list 3 (zt0.map E_api_Rat)), .int .i64 zt1]))
theorem fold_Shares_l0_go {x15 : List Int} {x16 : Int} {x17 : Int} {zt0 : List T_api_Rat} {zt1 : Int} (H : ((x17 < x16 ∧ (0 ≤ x17 ∧ (x17 < (x15.length : Int) ∧ (((x15.getD (x17).toNat 0) < 0 ∧ (zt0 = ([] : List T_api_Rat) ∧ zt1 = 2)) ∨ (¬ (x15.getD (x17).toNat 0) < 0 ∧ (∃ c6_0 : Bool, (∃ c6_1 : List Int, (∃ c6_2 : List Int, (rat_Of_R (x15.getD (x17).toNat 0) c6_0 c6_1 c6_2 ∧ ((1 + 192) * (56 + 1) ≤ 70368744177664 ∧ (∃ y8 : List T_api_Rat, y8 = [(c6_0, c6_1, c6_2)] ∧ (fold_Shares_l1 x15 x16 (wi (x17 + 1)) y8 zt0 zt1)))))))))))) ∨ (¬ x17 < x16 ∧ (∃ c12_0 : Bool, (∃ c12_1 : List Int, (∃ c12_2 : List Int, (fold_Sum_R ([] : List T_api_Rat) c12_0 c12_1 c12_2 ∧ (fold_Shares_l2 0 0 c12_0 c12_1 c12_2 zt0 zt1)))))))) : fold_Shares_l0 x15 x16 x17 zt0 zt1 := by
 intro j jb vs
 refine W.adv 1 ?_
 refine W.adv 6 ?_
 rcases H with ⟨h2, H⟩ | ⟨h2, H⟩
 ·refine W.cond true (w := (decide (x17 < x16))) (by kernel_rfl) (decide_eq_true h2) ?_
  refine W.adv 6 ?_
  obtain ⟨h3, h4, H⟩ := H
  refine W.opS (OpIs.ixI (k := .i64) (k' := .i64) (xs := x15) (i := x17) (by kernel_rfl) h3 h4) ?_
  refine W.adv 11 ?_
  rcases H with ⟨h5, H⟩ | ⟨h5, H⟩
  ·refine W.cond true (w := (decide ((x15.getD (x17).toNat 0) < 0))) (by kernel_rfl) (decide_eq_true h5) ?_
   refine W.adv 13 ?_
   exact W.fin (x := .ret) (by kernel_rfl) (Ans.of (d := (.tuple [.nilS, .int .i64 2])) (d' := (.tuple [.nilS, .int .i64 2])) (e' := (.tuple [(.list 3 (([] : List T_api_Rat).map E_api_Rat)), .int .i64 2])) (by kernel_rfl) (by kernel_rfl) (by kernel_rfl) (by rw [H.1, H.2]))
  ·refine W.cond false (w := (decide ((x15.getD (x17).toNat 0) < 0))) (by kernel_rfl) (decide_eq_false h5) ?_
   refine W.adv 5 ?_
   obtain ⟨c6_0, c6_1, c6_2, hc7, H⟩ := H
   refine W.callR (g := 38) (ds := [(.int .i64 (x15.getD (x17).toNat 0))]) (es := [(.int .i64 (x15.getD (x17).toNat 0))]) (r := (.agg [.bool c6_0, .ints .u64 c6_1, .ints .u64 c6_2])) (by kernel_rfl) (by kernel_rfl) (Ic.args hc7 (by kernel_rfl)) (by kernel_rfl) ?_
   refine W.adv 1 ?_
   obtain ⟨h11, H⟩ := H
   obtain ⟨y8, hy9, H⟩ := H
   have ln10 : 1 = y8.length := by rw [hy9] <;> rfl
   refine W.opH (OpIs.apENil (enc := E_api_Rat) (y := (.lit (.list 3 [(.agg [.bool c6_0, .ints .u64 c6_1, .ints .u64 c6_2])]))) (B := none) (n := 56) (d := 27) (v := (jb 27).ver) (m := 3) (ys := [(c6_0, c6_1, c6_2)]) (by kernel_rfl) (by kernel_rfl) hy9 h11) ?_
   refine W.adv 9 ?_
   exact W.to_loop (P := fold_Shares_l1_s x15 x16 (wi (x17 + 1)) y8 1) (H _ ln10) (by kernel_rfl)
 ·refine W.cond false (w := (decide (x17 < x16))) (by kernel_rfl) (decide_eq_false h2) ?_
  refine W.adv 8 ?_
  obtain ⟨c12_0, c12_1, c12_2, hc13, H⟩ := H
  refine W.callT (g := 74) (ds := [.nilS]) (es := [.nilS]) (r := (.agg [.bool c12_0, .ints .u64 c12_1, .ints .u64 c12_2])) (by kernel_rfl) (by kernel_rfl) (by kernel_rfl) (Ic.args hc13 (by kernel_rfl)) ?_
  refine W.adv 1 ?_
  refine W.opH (OpIs.stV (b := 7) (v := ((jb 7).ver + 1)) (i := 0) (off := 0) (w := ((jb 7).ver + 1)) (n := 3) (s := 3) (xs := [(.agg [.bool false, .nilS, .nilS])]) (ys := [(.agg [.bool c12_0, .ints .u64 c12_1, .ints .u64 c12_2])]) (d := (.agg [.bool false, .nilS, .nilS])) (y := (.agg [.bool c12_0, .ints .u64 c12_1, .ints .u64 c12_2])) (by kernel_rfl) rfl (by kernel_rfl) (by kernel_rfl) (Nat.le_of_ble_eq_true (by kernel_rfl)) (by kernel_rfl) (by kernel_rfl)) ?_
  refine W.adv 11 ?_
  exact W.to_loop (P := fold_Shares_l2_s 0 0 c12_0 c12_1 c12_2) (H ) (by kernel_rfl)
theorem fold_Shares_l1_go {x15 : List Int} {x16 : Int} {x17 : Int} {r27 : List T_api_Rat} {zt0 : List T_api_Rat} {zt1 : Int} (H : ((x17 < x16 ∧ (0 ≤ x17 ∧ (x17 < (x15.length : Int) ∧ (((x15.getD (x17).toNat 0) < 0 ∧ (zt0 = ([] : List T_api_Rat) ∧ zt1 = 2)) ∨ (¬ (x15.getD (x17).toNat 0) < 0 ∧ (∃ c18_0 : Bool, (∃ c18_1 : List Int, (∃ c18_2 : List Int, (rat_Of_R (x15.getD (x17).toNat 0) c18_0 c18_1 c18_2 ∧ ((r27.length + 1 + 192) * (56 + 1) ≤ 70368744177664 ∧ (∃ y20 : List T_api_Rat, y20 = r27 ++ [(c18_0, c18_1, c18_2)] ∧ (fold_Shares_l1 x15 x16 (wi (x17 + 1)) y20 zt0 zt1)))))))))))) ∨ (¬ x17 < x16 ∧ (∃ c24_0 : Bool, (∃ c24_1 : List Int, (∃ c24_2 : List Int, (∃ y25 : List T_api_Rat, (y25.length = r27.length ∧ fold_Sum_S_R r27 c24_0 c24_1 c24_2 y25 ∧ (fold_Shares_l3 (y25.length : Int) 0 c24_0 c24_1 c24_2 y25 zt0 zt1))))))))) : fold_Shares_l1 x15 x16 x17 r27 zt0 zt1 := by
 intro n27 ln_27 j jb vs
 refine W.adv 1 ?_
 refine W.adv 6 ?_
 rcases H with ⟨h14, H⟩ | ⟨h14, H⟩
 ·refine W.cond true (w := (decide (x17 < x16))) (by kernel_rfl) (decide_eq_true h14) ?_
  refine W.adv 6 ?_
  obtain ⟨h15, h16, H⟩ := H
  refine W.opS (OpIs.ixI (k := .i64) (k' := .i64) (xs := x15) (i := x17) (by kernel_rfl) h15 h16) ?_
  refine W.adv 11 ?_
  rcases H with ⟨h17, H⟩ | ⟨h17, H⟩
  ·refine W.cond true (w := (decide ((x15.getD (x17).toNat 0) < 0))) (by kernel_rfl) (decide_eq_true h17) ?_
   refine W.adv 13 ?_
   exact W.fin (x := .ret) (by kernel_rfl) (Ans.of (d := (.tuple [.nilS, .int .i64 2])) (d' := (.tuple [.nilS, .int .i64 2])) (e' := (.tuple [(.list 3 (([] : List T_api_Rat).map E_api_Rat)), .int .i64 2])) (by kernel_rfl) (by kernel_rfl) (by kernel_rfl) (by rw [H.1, H.2]))
  ·refine W.cond false (w := (decide ((x15.getD (x17).toNat 0) < 0))) (by kernel_rfl) (decide_eq_false h17) ?_
   refine W.adv 5 ?_
   obtain ⟨c18_0, c18_1, c18_2, hc19, H⟩ := H
   refine W.callR (g := 38) (ds := [(.int .i64 (x15.getD (x17).toNat 0))]) (es := [(.int .i64 (x15.getD (x17).toNat 0))]) (r := (.agg [.bool c18_0, .ints .u64 c18_1, .ints .u64 c18_2])) (by kernel_rfl) (by kernel_rfl) (Ic.args hc19 (by kernel_rfl)) (by kernel_rfl) ?_
   refine W.adv 1 ?_
   obtain ⟨h23, H⟩ := H
   obtain ⟨y20, hy21, H⟩ := H
   have ln22 : (r27.length + 1) = y20.length := by rw [hy21, List.length_append] <;> rfl
   refine W.opK (OpIs.apERow (enc := E_api_Rat) (y := (.lit (.list 3 [(.agg [.bool c18_0, .ints .u64 c18_1, .ints .u64 c18_2])]))) (n := 56) (d := 27) (dv := ((vs 27) + 1)) (b := 27) (v := ((vs 27) + 1)) (w := ((vs 27) + 1)) (len := n27) (m := 3) (xs := r27) (ys := [(c18_0, c18_1, c18_2)]) (by kernel_rfl) (by kernel_rfl) hy21 rfl ln_27 h23) ?_
   refine W.adv 9 ?_
   exact W.to_loop (P := fold_Shares_l1_s x15 x16 (wi (x17 + 1)) y20 (r27.length + 1)) (H _ ln22) (by kernel_rfl)
 ·refine W.cond false (w := (decide (x17 < x16))) (by kernel_rfl) (decide_eq_false h14) ?_
  refine W.adv 8 ?_
  obtain ⟨c24_0, c24_1, c24_2, y25, hl26, hc27, H⟩ := H
  have ln28 : n27 = y25.length := by rw [hl26]; exact ln_27
  refine W.sharedK (g := 74) (ds := [(.sref 27 ((vs 27) + 1) 3 0 n27)]) (d := (.agg [.bool c24_0, .ints .u64 c24_1, .ints .u64 c24_2])) (P := (fun cb => [cb 0, cb 1, cb 2, cb 3, cb 4, cb 5, cb 6, cb 7, cb 8, cb 9, cb 10, cb 11, cb 12, cb 13, cb 14, cb 15, cb 16, cb 17, cb 18, cb 19, cb 20, cb 21, cb 22, cb 23, cb 24, cb 25, cb 26, ⟨((vs 27) + 1), false, .rows 3 (r27.map E_api_Rat)⟩, cb 28, cb 29, cb 30, cb 31, cb 32, cb 33, cb 34, cb 35, cb 36, cb 37, cb 38, cb 39, cb 40, cb 41, cb 42, cb 43, cb 44, cb 45, cb 46, cb 47, cb 48, cb 49, cb 50, cb 51, cb 52])) (P' := (fun cb eb => [cb 0, cb 1, cb 2, cb 3, cb 4, cb 5, cb 6, cb 7, cb 8, cb 9, cb 10, cb 11, cb 12, cb 13, cb 14, cb 15, cb 16, cb 17, cb 18, cb 19, cb 20, cb 21, cb 22, cb 23, cb 24, cb 25, cb 26, ⟨((vs 27) + 1), false, .rows 3 (y25.map E_api_Rat)⟩, cb 28, cb 29, cb 30, cb 31, cb 32, cb 33, cb 34, cb 35, cb 36, cb 37, cb 38, cb 39, cb 40, cb 41, cb 42, cb 43, cb 44, cb 45, cb 46, cb 47, cb 48, cb 49, cb 50, cb 51, cb 52, eb 0, eb 1, eb 2, eb 3, eb 4, eb 5, eb 6, eb 7, eb 8, eb 9, eb 10, eb 11, eb 12, eb 13, eb 14, eb 15, eb 16, eb 17])) (by kernel_rfl) (by kernel_rfl) (by kernel_rfl) (fun cb => hc27 cb _ _ ln_27) (fun eb29 => ?_)
  refine W.adv 1 ?_
  refine W.opH (OpIs.stV (b := 7) (v := ((jb 7).ver + 1)) (i := 0) (off := 0) (w := ((jb 7).ver + 1)) (n := 3) (s := 3) (xs := [(.agg [.bool false, .nilS, .nilS])]) (ys := [(.agg [.bool c24_0, .ints .u64 c24_1, .ints .u64 c24_2])]) (d := (.agg [.bool false, .nilS, .nilS])) (y := (.agg [.bool c24_0, .ints .u64 c24_1, .ints .u64 c24_2])) (by kernel_rfl) rfl (by kernel_rfl) (by kernel_rfl) (Nat.le_of_ble_eq_true (by kernel_rfl)) (by kernel_rfl) (by kernel_rfl)) ?_
  refine W.adv 6 ?_
  refine W.opS (OpIs.ln (n := n27) (m := y25.length) (by kernel_rfl) ln28) ?_
  refine W.adv 4 ?_
  exact W.to_loop (P := fold_Shares_l3_s (y25.length : Int) 0 c24_0 c24_1 c24_2 y25 n27) (H _ ln28) (by kernel_rfl)
theorem fold_Shares_l3_go {x32 : Int} {x33 : Int} {r7_0_0 : Bool} {r7_0_1 : List Int} {r7_0_2 : List Int} {r27 : List T_api_Rat} {zt0 : List T_api_Rat} {zt1 : Int} (H : ((x33 < x32 ∧ (0 ≤ x33 ∧ (x33 < (r27.length : Int) ∧ (∃ e34 : Bool, (∃ e35 : List Int, (∃ e36 : List Int, (r27.getD (x33).toNat (false, [], []) = (e34, e35, e36) ∧ (∃ c38t0_0 : Bool, (∃ c38t0_1 : List Int, (∃ c38t0_2 : List Int, (∃ c38t1 : Int, (rat_Div_R e34 e35 e36 r7_0_0 r7_0_1 r7_0_2 c38t0_0 c38t0_1 c38t0_2 c38t1 ∧ ((c38t1 = 0 ∧ (∃ y41, y41 = r27.set (x33).toNat (c38t0_0, c38t0_1, c38t0_2) ∧ (fold_Shares_l3 x32 (wi (x33 + 1)) r7_0_0 r7_0_1 r7_0_2 y41 zt0 zt1))) ∨ (¬ c38t1 = 0 ∧ (zt0 = ([] : List T_api_Rat) ∧ zt1 = c38t1))))))))))))))) ∨ (¬ x33 < x32 ∧ (zt0 = r27 ∧ zt1 = 0)))) : fold_Shares_l3 x32 x33 r7_0_0 r7_0_1 r7_0_2 r27 zt0 zt1 := by
 intro n27 ln_27 j jb vs
 refine W.adv 1 ?_
 refine W.adv 6 ?_
 rcases H with ⟨h31, H⟩ | ⟨h31, H⟩
 ·refine W.cond true (w := (decide (x33 < x32))) (by kernel_rfl) (decide_eq_true h31) ?_
  refine W.adv 7 ?_
  obtain ⟨h32, h33, H⟩ := H
  refine W.opS (OpIs.ixR (k' := .i64) (b := 27) (v := ((vs 27) + 1)) (sz := 3) (len := n27) (i := x33) (by kernel_rfl) h32 (by rw [ln_27]; exact h33)) ?_
  obtain ⟨e34, e35, e36, he37, H⟩ := H
  refine W.opS (OpIs.ldE (enc := E_api_Rat) (b := 27) (v := ((vs 27) + 1)) (i := (x33).toNat) (off := 0) (w := ((vs 27) + 1)) (n := 3) (s := 3) (fz := false) (a := true) (L := r27) (d0 := (false, [], [])) (x := (e34, e35, e36)) (r := (.agg [.bool e34, .ints .u64 e35, .ints .u64 e36])) (by kernel_rfl) rfl (by omega) he37 (by kernel_rfl)) ?_
  refine W.adv 2 ?_
  refine W.opH (OpIs.stV (b := 9) (v := ((jb 9).ver + 1)) (i := 0) (off := 0) (w := ((jb 9).ver + 1)) (n := 3) (s := 3) (xs := [(.agg [.bool false, .nilS, .nilS])]) (ys := [(.agg [.bool e34, .ints .u64 e35, .ints .u64 e36])]) (d := (.agg [.bool false, .nilS, .nilS])) (y := (.agg [.bool e34, .ints .u64 e35, .ints .u64 e36])) (by kernel_rfl) rfl (by kernel_rfl) (by kernel_rfl) (Nat.le_of_ble_eq_true (by kernel_rfl)) (by kernel_rfl) (by kernel_rfl)) ?_
  refine W.adv 4 ?_
  refine W.opS (OpIs.ldV (b := 9) (v := ((jb 9).ver + 1)) (i := 0) (off := 0) (w := ((jb 9).ver + 1)) (n := 3) (s := 3) (fz := false) (a := true) (xs := [(.agg [.bool e34, .ints .u64 e35, .ints .u64 e36])]) (r := (.agg [.bool e34, .ints .u64 e35, .ints .u64 e36])) (by kernel_rfl) rfl (by kernel_rfl)) ?_
  refine W.opS (OpIs.ldV (b := 7) (v := ((vs 7) + 1)) (i := 0) (off := 0) (w := ((vs 7) + 1)) (n := 3) (s := 3) (fz := false) (a := true) (xs := [(.agg [.bool r7_0_0, .ints .u64 r7_0_1, .ints .u64 r7_0_2])]) (r := (.agg [.bool r7_0_0, .ints .u64 r7_0_1, .ints .u64 r7_0_2])) (by kernel_rfl) rfl (by kernel_rfl)) ?_
  obtain ⟨c38t0_0, c38t0_1, c38t0_2, c38t1, hc39, H⟩ := H
  refine W.callR (g := 121) (ds := [(.agg [.bool e34, .ints .u64 e35, .ints .u64 e36]), (.agg [.bool r7_0_0, .ints .u64 r7_0_1, .ints .u64 r7_0_2])]) (es := [(.agg [.bool e34, .ints .u64 e35, .ints .u64 e36]), (.agg [.bool r7_0_0, .ints .u64 r7_0_1, .ints .u64 r7_0_2])]) (r := (.tuple [(.agg [.bool c38t0_0, .ints .u64 c38t0_1, .ints .u64 c38t0_2]), .int .i64 c38t1])) (by kernel_rfl) (by kernel_rfl) (Ic.args hc39 (by kernel_rfl)) (by kernel_rfl) ?_
  refine W.adv 4 ?_
  refine W.opH (OpIs.stV (b := 10) (v := ((jb 10).ver + 1)) (i := 0) (off := 0) (w := ((jb 10).ver + 1)) (n := 3) (s := 3) (xs := [(.agg [.bool false, .nilS, .nilS])]) (ys := [(.agg [.bool c38t0_0, .ints .u64 c38t0_1, .ints .u64 c38t0_2])]) (d := (.agg [.bool false, .nilS, .nilS])) (y := (.agg [.bool c38t0_0, .ints .u64 c38t0_1, .ints .u64 c38t0_2])) (by kernel_rfl) rfl (by kernel_rfl) (by kernel_rfl) (Nat.le_of_ble_eq_true (by kernel_rfl)) (by kernel_rfl) (by kernel_rfl)) ?_
  refine W.adv 10 ?_
  rcases H with ⟨h40, H⟩ | ⟨h40, H⟩
  ·refine W.cond false (w := (!(decide (c38t1 = 0)))) (by kernel_rfl) (congrArg (fun b => !b) (decide_eq_true h40)) ?_
   refine W.adv 5 ?_
   refine W.opS (OpIs.ldV (b := 10) (v := ((jb 10).ver + 1)) (i := 0) (off := 0) (w := ((jb 10).ver + 1)) (n := 3) (s := 3) (fz := false) (a := true) (xs := [(.agg [.bool c38t0_0, .ints .u64 c38t0_1, .ints .u64 c38t0_2])]) (r := (.agg [.bool c38t0_0, .ints .u64 c38t0_1, .ints .u64 c38t0_2])) (by kernel_rfl) rfl (by kernel_rfl)) ?_
   refine W.opS (OpIs.ixR (k' := .i64) (b := 27) (v := ((vs 27) + 1)) (sz := 3) (len := n27) (i := x33) (by kernel_rfl) h32 (by rw [ln_27]; exact h33)) ?_
   obtain ⟨y41, hy42, H⟩ := H
   have ln43 : n27 = y41.length := by rw [hy42, List.length_set]; exact ln_27
   refine W.opH (OpIs.stE (enc := E_api_Rat) (b := 27) (v := ((vs 27) + 1)) (i := (x33).toNat) (off := 0) (w := ((vs 27) + 1)) (n := 3) (s := 3) (L := r27) (d0 := (false, [], [])) (x := (r27.getD (x33).toNat (false, [], []))) (z := (c38t0_0, c38t0_1, c38t0_2)) (y := (.agg [.bool c38t0_0, .ints .u64 c38t0_1, .ints .u64 c38t0_2])) (by kernel_rfl) hy42 rfl (by omega) rfl (by kernel_rfl) (Nat.le_of_ble_eq_true (by kernel_rfl)) (by kernel_rfl) (by kernel_rfl)) ?_
   refine W.adv 8 ?_
   exact W.to_loop (P := fold_Shares_l3_s x32 (wi (x33 + 1)) r7_0_0 r7_0_1 r7_0_2 y41 n27) (H _ ln43) (by kernel_rfl)
  ·refine W.cond true (w := (!(decide (c38t1 = 0)))) (by kernel_rfl) (congrArg (fun b => !b) (decide_eq_false h40)) ?_
   refine W.adv 14 ?_
   exact W.fin (x := .ret) (by kernel_rfl) (Ans.of (d := (.tuple [.nilS, .int .i64 c38t1])) (d' := (.tuple [.nilS, .int .i64 c38t1])) (e' := (.tuple [(.list 3 (([] : List T_api_Rat).map E_api_Rat)), .int .i64 c38t1])) (by kernel_rfl) (by kernel_rfl) (by kernel_rfl) (by rw [H.1, H.2]))
 ·refine W.cond false (w := (decide (x33 < x32))) (by kernel_rfl) (decide_eq_false h31) ?_
  refine W.adv 13 ?_
  exact W.fin (x := .ret) (by kernel_rfl) (Ans.of (d := (.tuple [(.sref 27 ((vs 27) + 1) 3 0 n27), .int .i64 0])) (d' := (.tuple [(.list 3 (r27.map E_api_Rat)), .int .i64 0])) (e' := (.tuple [(.list 3 (r27.map E_api_Rat)), .int .i64 0])) (by kernel_rfl) ((congrArg (fun h => reify h DEPTH (.tuple [(.sref 27 ((vs 27) + 1) 3 0 n27), .int .i64 0])) (tidy_ver (b := 27) (v := (vs 27)) (fz := false) (y := .rows 3 (r27.map E_api_Rat)) (by kernel_rfl))).trans (rf_tup (rf_cons (rf_fullE (enc := E_api_Rat) E_api_Rat_t (b := 27) (v := ((vs 27) + 1)) (w := ((vs 27) + 1)) (fz := false) (xs := r27) (by kernel_rfl) rfl ln_27) (rf_cons (by kernel_rfl) rf_nil)))) (by kernel_rfl) (by rw [H.1, H.2]))
theorem fold_Shares_go {a0 : List Int} {zt0 : List T_api_Rat} {zt1 : Int} (H : (((a0.length : Int) = 0 ∧ (zt0 = ([] : List T_api_Rat) ∧ zt1 = 9)) ∨ (¬ (a0.length : Int) = 0 ∧ (fold_Shares_l0 a0 (a0.length : Int) 0 zt0 zt1)))) : fold_Shares_R a0 zt0 zt1 := by
 refine W.ic (zs := [.ints .i64 a0]) Tryz.func59 (by kernel_rfl) (by kernel_rfl) (by kernel_rfl) (by kernel_rfl) ?_
 refine W.adv 14 ?_
 rcases H with ⟨h1, H⟩ | ⟨h1, H⟩
 ·refine W.cond true (w := (decide ((a0.length : Int) = 0))) (by kernel_rfl) (decide_eq_true h1) ?_
  refine W.adv 8 ?_
  exact W.fin (x := .ret) (by kernel_rfl) (Ans.of (d := (.tuple [.nilS, .int .i64 9])) (d' := (.tuple [.nilS, .int .i64 9])) (e' := (.tuple [(.list 3 (([] : List T_api_Rat).map E_api_Rat)), .int .i64 9])) (by kernel_rfl) (by kernel_rfl) (by kernel_rfl) (by rw [H.1, H.2]))
 ·refine W.cond false (w := (decide ((a0.length : Int) = 0))) (by kernel_rfl) (decide_eq_false h1) ?_
  refine W.adv 16 ?_
  exact W.to_loop (P := fold_Shares_l0_s a0 (a0.length : Int) 0) (H ) (by kernel_rfl)
noncomputable def fold_Sum_S_l0_s (cb : Nat → Blk) (ver : Nat) (x8 : Int) (x9 : Int) (r27 : List T_api_Rat) (r55_0_0 : Bool) (r56_0_0 : Bool) (r56_0_1 : List Int) (r56_0_2 : List Int) (n27 : Nat) (j : Nat → D) (jb : Nat → Blk) (vs : Nat → Nat) : Cf := cfAt Tryz.f74 [1, 1, 0, 1, 0] ⟨[j 0, j 1, .pref 55 1 0 0, .pref 56 1 0 0, j 4, j 5, j 6, .sref 27 ver 3 0 n27, .int .i64 x8, .int .i64 x9, j 10, j 11, j 12, j 13, j 14, j 15, j 16, j 17], [cb 0, cb 1, cb 2, cb 3, cb 4, cb 5, cb 6, cb 7, cb 8, cb 9, cb 10, cb 11, cb 12, cb 13, cb 14, cb 15, cb 16, cb 17, cb 18, cb 19, cb 20, cb 21, cb 22, cb 23, cb 24, cb 25, cb 26, ⟨ver, false, .rows 3 (r27.map E_api_Rat)⟩, cb 28, cb 29, cb 30, cb 31, cb 32, cb 33, cb 34, cb 35, cb 36, cb 37, cb 38, cb 39, cb 40, cb 41, cb 42, cb 43, cb 44, cb 45, cb 46, cb 47, cb 48, cb 49, cb 50, cb 51, cb 52, noBlk, noBlk, ⟨1, false, .rows 3 [(.agg [.bool r55_0_0, .nilS, .nilS])]⟩, ⟨1, false, .rows 3 [(.agg [.bool r56_0_0, .ints .u64 r56_0_1, .ints .u64 r56_0_2])]⟩, noBlk, noBlk, noBlk, noBlk, noBlk, noBlk, noBlk, noBlk, noBlk, noBlk, noBlk, noBlk, noBlk, noBlk]⟩
def fold_Sum_S_l0 (cb : Nat → Blk) (ver : Nat) (x8 : Int) (x9 : Int) (r27 : List T_api_Rat) (r55_0_0 : Bool) (r56_0_0 : Bool) (r56_0_1 : List Int) (r56_0_2 : List Int) (z_0 : Bool) (z_1 : List Int) (z_2 : List Int) (ys : List T_api_Rat) : Prop := ∀ n27, n27 = r27.length → ∀ j jb vs, W C F 74 53 (fold_Sum_S_l0_s cb ver x8 x9 r27 r55_0_0 r56_0_0 r56_0_1 r56_0_2 n27 j jb vs) (SAnsK C Tryz.f74 53 (.agg [.bool z_0, .ints .u64 z_1, .ints .u64 z_2]) (fun eb => [cb 0, cb 1, cb 2, cb 3, cb 4, cb 5, cb 6, cb 7, cb 8, cb 9, cb 10, cb 11, cb 12, cb 13, cb 14, cb 15, cb 16, cb 17, cb 18, cb 19, cb 20, cb 21, cb 22, cb 23, cb 24, cb 25, cb 26, ⟨ver, false, .rows 3 (ys.map E_api_Rat)⟩, cb 28, cb 29, cb 30, cb 31, cb 32, cb 33, cb 34, cb 35, cb 36, cb 37, cb 38, cb 39, cb 40, cb 41, cb 42, cb 43, cb 44, cb 45, cb 46, cb 47, cb 48, cb 49, cb 50, cb 51, cb 52, eb 0, eb 1, eb 2, eb 3, eb 4, eb 5, eb 6, eb 7, eb 8, eb 9, eb 10, eb 11, eb 12, eb 13, eb 14, eb 15, eb 16, eb 17]))
noncomputable def fold_Sum_S_l1_s (cb : Nat → Blk) (ver : Nat) (x8 : Int) (x9 : Int) (r27 : List T_api_Rat) (r55_0_0 : Bool) (r56_0_0 : Bool) (r56_0_1 : List Int) (r56_0_2 : List Int) (n27 : Nat) (j : Nat → D) (jb : Nat → Blk) (vs : Nat → Nat) : Cf := cfAt Tryz.f74 [1, 1, 0, 1, 0] ⟨[j 0, j 1, .pref 55 1 0 0, .pref 56 1 0 0, j 4, j 5, j 6, .sref 27 ver 3 0 n27, .int .i64 x8, .int .i64 x9, j 10, j 11, j 12, j 13, j 14, j 15, j 16, j 17], [cb 0, cb 1, cb 2, cb 3, cb 4, cb 5, cb 6, cb 7, cb 8, cb 9, cb 10, cb 11, cb 12, cb 13, cb 14, cb 15, cb 16, cb 17, cb 18, cb 19, cb 20, cb 21, cb 22, cb 23, cb 24, cb 25, cb 26, ⟨ver, false, .rows 3 (r27.map E_api_Rat)⟩, cb 28, cb 29, cb 30, cb 31, cb 32, cb 33, cb 34, cb 35, cb 36, cb 37, cb 38, cb 39, cb 40, cb 41, cb 42, cb 43, cb 44, cb 45, cb 46, cb 47, cb 48, cb 49, cb 50, cb 51, cb 52, noBlk, noBlk, ⟨1, false, .rows 3 [(.agg [.bool r55_0_0, .nilS, .nilS])]⟩, ⟨1, false, .rows 3 [(.agg [.bool r56_0_0, .ints .u64 r56_0_1, .ints .u64 r56_0_2])]⟩, noBlk, jb 58, noBlk, noBlk, noBlk, noBlk, noBlk, noBlk, noBlk, noBlk, noBlk, noBlk, noBlk, noBlk]⟩
def fold_Sum_S_l1 (cb : Nat → Blk) (ver : Nat) (x8 : Int) (x9 : Int) (r27 : List T_api_Rat) (r55_0_0 : Bool) (r56_0_0 : Bool) (r56_0_1 : List Int) (r56_0_2 : List Int) (z_0 : Bool) (z_1 : List Int) (z_2 : List Int) (ys : List T_api_Rat) : Prop := ∀ n27, n27 = r27.length → ∀ j jb vs, W C F 74 53 (fold_Sum_S_l1_s cb ver x8 x9 r27 r55_0_0 r56_0_0 r56_0_1 r56_0_2 n27 j jb vs) (SAnsK C Tryz.f74 53 (.agg [.bool z_0, .ints .u64 z_1, .ints .u64 z_2]) (fun eb => [cb 0, cb 1, cb 2, cb 3, cb 4, cb 5, cb 6, cb 7, cb 8, cb 9, cb 10, cb 11, cb 12, cb 13, cb 14, cb 15, cb 16, cb 17, cb 18, cb 19, cb 20, cb 21, cb 22, cb 23, cb 24, cb 25, cb 26, ⟨ver, false, .rows 3 (ys.map E_api_Rat)⟩, cb 28, cb 29, cb 30, cb 31, cb 32, cb 33, cb 34, cb 35, cb 36, cb 37, cb 38, cb 39, cb 40, cb 41, cb 42, cb 43, cb 44, cb 45, cb 46, cb 47, cb 48, cb 49, cb 50, cb 51, cb 52, eb 0, eb 1, eb 2, eb 3, eb 4, eb 5, eb 6, eb 7, eb 8, eb 9, eb 10, eb 11, eb 12, eb 13, eb 14, eb 15, eb 16, eb 17]))
theorem fold_Sum_S_l0_go {cb : Nat → Blk} {ver : Nat} {x8 : Int} {x9 : Int} {r27 : List T_api_Rat} {r55_0_0 : Bool} {r56_0_0 : Bool} {r56_0_1 : List Int} {r56_0_2 : List Int} {z_0 : Bool} {z_1 : List Int} {z_2 : List Int} {ys : List T_api_Rat} (H : ((x9 < x8 ∧ (0 ≤ x9 ∧ (x9 < (r27.length : Int) ∧ (∃ e6 : Bool, (∃ e7 : List Int, (∃ e8 : List Int, (r27.getD (x9).toNat (false, [], []) = (e6, e7, e8) ∧ (∃ c10_0 : Bool, (∃ c10_1 : List Int, (∃ c10_2 : List Int, (rat_Add_R r56_0_0 r56_0_1 r56_0_2 e6 e7 e8 c10_0 c10_1 c10_2 ∧ (fold_Sum_S_l1 cb ver x8 (wi (x9 + 1)) r27 r55_0_0 c10_0 c10_1 c10_2 z_0 z_1 z_2 ys)))))))))))) ∨ (¬ x9 < x8 ∧ (z_0 = r56_0_0 ∧ z_1 = r56_0_1 ∧ z_2 = r56_0_2 ∧ ys = r27)))) : fold_Sum_S_l0 cb ver x8 x9 r27 r55_0_0 r56_0_0 r56_0_1 r56_0_2 z_0 z_1 z_2 ys := by
 intro n27 ln_27 j jb vs
 refine W.adv 1 ?_
 refine W.adv 6 ?_
 rcases H with ⟨h3, H⟩ | ⟨h3, H⟩
 ·refine W.cond true (w := (decide (x9 < x8))) (by kernel_rfl) (decide_eq_true h3) ?_
  refine W.adv 6 ?_
  obtain ⟨h4, h5, H⟩ := H
  refine W.opS (OpIs.ixR (k' := .i64) (b := 27) (v := ver) (sz := 3) (len := n27) (i := x9) (by kernel_rfl) h4 (by rw [ln_27]; exact h5)) ?_
  obtain ⟨e6, e7, e8, he9, H⟩ := H
  refine W.opS (OpIs.ldE (enc := E_api_Rat) (b := 27) (v := ver) (i := (x9).toNat) (off := 0) (w := ver) (n := 3) (s := 3) (fz := false) (a := true) (L := r27) (d0 := (false, [], [])) (x := (e6, e7, e8)) (r := (.agg [.bool e6, .ints .u64 e7, .ints .u64 e8])) (by kernel_rfl) rfl (by omega) he9 (by kernel_rfl)) ?_
  refine W.adv 7 ?_
  obtain ⟨c10_0, c10_1, c10_2, hc11, H⟩ := H
  refine W.callR (g := 44) (ds := [(.agg [.bool r56_0_0, .ints .u64 r56_0_1, .ints .u64 r56_0_2]), (.agg [.bool e6, .ints .u64 e7, .ints .u64 e8])]) (es := [(.agg [.bool r56_0_0, .ints .u64 r56_0_1, .ints .u64 r56_0_2]), (.agg [.bool e6, .ints .u64 e7, .ints .u64 e8])]) (r := (.agg [.bool c10_0, .ints .u64 c10_1, .ints .u64 c10_2])) (by kernel_rfl) (by kernel_rfl) (Ic.args hc11 (by kernel_rfl)) (by kernel_rfl) ?_
  refine W.adv 9 ?_
  exact W.to_loop (P := fold_Sum_S_l1_s cb ver x8 (wi (x9 + 1)) r27 r55_0_0 c10_0 c10_1 c10_2 n27) (H _ ln_27) (by kernel_rfl)
 ·refine W.cond false (w := (decide (x9 < x8))) (by kernel_rfl) (decide_eq_false h3) ?_
  refine W.adv 12 ?_
  exact W.fin (x := .ret) (by kernel_rfl) (SAnsK.of (b := 55) (v := 0) (fz := false) (y := .rows 3 [(.agg [.bool r56_0_0, .ints .u64 r56_0_1, .ints .u64 r56_0_2])]) (d0 := (.agg [.bool r56_0_0, .ints .u64 r56_0_1, .ints .u64 r56_0_2])) (h0 := (fun eb => [cb 0, cb 1, cb 2, cb 3, cb 4, cb 5, cb 6, cb 7, cb 8, cb 9, cb 10, cb 11, cb 12, cb 13, cb 14, cb 15, cb 16, cb 17, cb 18, cb 19, cb 20, cb 21, cb 22, cb 23, cb 24, cb 25, cb 26, ⟨ver, false, .rows 3 (r27.map E_api_Rat)⟩, cb 28, cb 29, cb 30, cb 31, cb 32, cb 33, cb 34, cb 35, cb 36, cb 37, cb 38, cb 39, cb 40, cb 41, cb 42, cb 43, cb 44, cb 45, cb 46, cb 47, cb 48, cb 49, cb 50, cb 51, cb 52, eb 0, eb 1, eb 2, eb 3, eb 4, eb 5, eb 6, eb 7, eb 8, eb 9, eb 10, eb 11, eb 12, eb 13, eb 14, eb 15, eb 16, eb 17])) (by kernel_rfl) (by rw [H.1, H.2.1, H.2.2.1]) (by kernel_rfl) (by kernel_rfl) (by kernel_rfl) (by rw [H.2.2.2]))
theorem fold_Sum_S_l1_go {cb : Nat → Blk} {ver : Nat} {x8 : Int} {x9 : Int} {r27 : List T_api_Rat} {r55_0_0 : Bool} {r56_0_0 : Bool} {r56_0_1 : List Int} {r56_0_2 : List Int} {z_0 : Bool} {z_1 : List Int} {z_2 : List Int} {ys : List T_api_Rat} (H : ((x9 < x8 ∧ (0 ≤ x9 ∧ (x9 < (r27.length : Int) ∧ (∃ e15 : Bool, (∃ e16 : List Int, (∃ e17 : List Int, (r27.getD (x9).toNat (false, [], []) = (e15, e16, e17) ∧ (∃ c19_0 : Bool, (∃ c19_1 : List Int, (∃ c19_2 : List Int, (rat_Add_R r56_0_0 r56_0_1 r56_0_2 e15 e16 e17 c19_0 c19_1 c19_2 ∧ (fold_Sum_S_l1 cb ver x8 (wi (x9 + 1)) r27 r55_0_0 c19_0 c19_1 c19_2 z_0 z_1 z_2 ys)))))))))))) ∨ (¬ x9 < x8 ∧ (z_0 = r56_0_0 ∧ z_1 = r56_0_1 ∧ z_2 = r56_0_2 ∧ ys = r27)))) : fold_Sum_S_l1 cb ver x8 x9 r27 r55_0_0 r56_0_0 r56_0_1 r56_0_2 z_0 z_1 z_2 ys := by
 intro n27 ln_27 j jb vs
 refine W.adv 1 ?_
 refine W.adv 6 ?_
 rcases H with ⟨h12, H⟩ | ⟨h12, H⟩
 ·refine W.cond true (w := (decide (x9 < x8))) (by kernel_rfl) (decide_eq_true h12) ?_
  refine W.adv 6 ?_
  obtain ⟨h13, h14, H⟩ := H
  refine W.opS (OpIs.ixR (k' := .i64) (b := 27) (v := ver) (sz := 3) (len := n27) (i := x9) (by kernel_rfl) h13 (by rw [ln_27]; exact h14)) ?_
  obtain ⟨e15, e16, e17, he18, H⟩ := H
  refine W.opS (OpIs.ldE (enc := E_api_Rat) (b := 27) (v := ver) (i := (x9).toNat) (off := 0) (w := ver) (n := 3) (s := 3) (fz := false) (a := true) (L := r27) (d0 := (false, [], [])) (x := (e15, e16, e17)) (r := (.agg [.bool e15, .ints .u64 e16, .ints .u64 e17])) (by kernel_rfl) rfl (by omega) he18 (by kernel_rfl)) ?_
  refine W.adv 1 ?_
  refine W.opH (OpIs.stV (b := 58) (v := ((jb 58).ver + 1)) (i := 0) (off := 0) (w := ((jb 58).ver + 1)) (n := 3) (s := 3) (xs := [(.agg [.bool false, .nilS, .nilS])]) (ys := [(.agg [.bool e15, .ints .u64 e16, .ints .u64 e17])]) (d := (.agg [.bool false, .nilS, .nilS])) (y := (.agg [.bool e15, .ints .u64 e16, .ints .u64 e17])) (by kernel_rfl) rfl (by kernel_rfl) (by kernel_rfl) (Nat.le_of_ble_eq_true (by kernel_rfl)) (by kernel_rfl) (by kernel_rfl)) ?_
  refine W.adv 4 ?_
  refine W.opS (OpIs.ldV (b := 58) (v := ((jb 58).ver + 1)) (i := 0) (off := 0) (w := ((jb 58).ver + 1)) (n := 3) (s := 3) (fz := false) (a := true) (xs := [(.agg [.bool e15, .ints .u64 e16, .ints .u64 e17])]) (r := (.agg [.bool e15, .ints .u64 e16, .ints .u64 e17])) (by kernel_rfl) rfl (by kernel_rfl)) ?_
  obtain ⟨c19_0, c19_1, c19_2, hc20, H⟩ := H
  refine W.callR (g := 44) (ds := [(.agg [.bool r56_0_0, .ints .u64 r56_0_1, .ints .u64 r56_0_2]), (.agg [.bool e15, .ints .u64 e16, .ints .u64 e17])]) (es := [(.agg [.bool r56_0_0, .ints .u64 r56_0_1, .ints .u64 r56_0_2]), (.agg [.bool e15, .ints .u64 e16, .ints .u64 e17])]) (r := (.agg [.bool c19_0, .ints .u64 c19_1, .ints .u64 c19_2])) (by kernel_rfl) (by kernel_rfl) (Ic.args hc20 (by kernel_rfl)) (by kernel_rfl) ?_
  refine W.adv 9 ?_
  exact W.to_loop (P := fold_Sum_S_l1_s cb ver x8 (wi (x9 + 1)) r27 r55_0_0 c19_0 c19_1 c19_2 n27) (H _ ln_27) (by kernel_rfl)
 ·refine W.cond false (w := (decide (x9 < x8))) (by kernel_rfl) (decide_eq_false h12) ?_
  refine W.adv 12 ?_
  exact W.fin (x := .ret) (by kernel_rfl) (SAnsK.of (b := 55) (v := 0) (fz := false) (y := .rows 3 [(.agg [.bool r56_0_0, .ints .u64 r56_0_1, .ints .u64 r56_0_2])]) (d0 := (.agg [.bool r56_0_0, .ints .u64 r56_0_1, .ints .u64 r56_0_2])) (h0 := (fun eb => [cb 0, cb 1, cb 2, cb 3, cb 4, cb 5, cb 6, cb 7, cb 8, cb 9, cb 10, cb 11, cb 12, cb 13, cb 14, cb 15, cb 16, cb 17, cb 18, cb 19, cb 20, cb 21, cb 22, cb 23, cb 24, cb 25, cb 26, ⟨ver, false, .rows 3 (r27.map E_api_Rat)⟩, cb 28, cb 29, cb 30, cb 31, cb 32, cb 33, cb 34, cb 35, cb 36, cb 37, cb 38, cb 39, cb 40, cb 41, cb 42, cb 43, cb 44, cb 45, cb 46, cb 47, cb 48, cb 49, cb 50, cb 51, cb 52, eb 0, eb 1, eb 2, eb 3, eb 4, eb 5, eb 6, eb 7, eb 8, eb 9, eb 10, eb 11, eb 12, eb 13, eb 14, eb 15, eb 16, eb 17])) (by kernel_rfl) (by rw [H.1, H.2.1, H.2.2.1]) (by kernel_rfl) (by kernel_rfl) (by kernel_rfl) (by rw [H.2.2.2]))
theorem fold_Sum_S_go {xs : List T_api_Rat} {z_0 : Bool} {z_1 : List Int} {z_2 : List Int} {ys : List T_api_Rat} (H : ∀ (cb : Nat → Blk) (ver : Nat), (∃ c1_0 : Bool, (∃ c1_1 : List Int, (∃ c1_2 : List Int, (rat_Of_R 0 c1_0 c1_1 c1_2 ∧ (fold_Sum_S_l0 cb ver (xs.length : Int) 0 xs false c1_0 c1_1 c1_2 z_0 z_1 z_2 ys)))))) : fold_Sum_S_R xs z_0 z_1 z_2 ys := by
 intro cb ver n ln
 replace H := H cb ver
 refine W.scK (h' := (fun eb => [cb 0, cb 1, cb 2, cb 3, cb 4, cb 5, cb 6, cb 7, cb 8, cb 9, cb 10, cb 11, cb 12, cb 13, cb 14, cb 15, cb 16, cb 17, cb 18, cb 19, cb 20, cb 21, cb 22, cb 23, cb 24, cb 25, cb 26, ⟨ver, false, .rows 3 (ys.map E_api_Rat)⟩, cb 28, cb 29, cb 30, cb 31, cb 32, cb 33, cb 34, cb 35, cb 36, cb 37, cb 38, cb 39, cb 40, cb 41, cb 42, cb 43, cb 44, cb 45, cb 46, cb 47, cb 48, cb 49, cb 50, cb 51, cb 52, eb 0, eb 1, eb 2, eb 3, eb 4, eb 5, eb 6, eb 7, eb 8, eb 9, eb 10, eb 11, eb 12, eb 13, eb 14, eb 15, eb 16, eb 17])) (n := 53) Tryz.func74 (by kernel_rfl) (by kernel_rfl) (by kernel_rfl) (by kernel_rfl) ?_
 refine W.adv 7 ?_
 obtain ⟨c1_0, c1_1, c1_2, hc2, H⟩ := H
 refine W.callR (g := 38) (ds := [.int .i64 0]) (es := [.int .i64 0]) (r := (.agg [.bool c1_0, .ints .u64 c1_1, .ints .u64 c1_2])) (by kernel_rfl) (by kernel_rfl) (Ic.args hc2 (by kernel_rfl)) (by kernel_rfl) ?_
 refine W.adv 8 ?_
 refine W.opS (OpIs.ln (n := n) (m := xs.length) (by kernel_rfl) ln) ?_
 refine W.adv 4 ?_
 exact W.to_loop (P := fold_Sum_S_l0_s cb ver (xs.length : Int) 0 xs false c1_0 c1_1 c1_2 n) (H _ ln) (by kernel_rfl)
end Go.Proofs.YtjcdkemnflmfiaaGreatA
