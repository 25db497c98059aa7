/- Walks through the functions: what makes each relation true. -/
import Derived.Test.YtmdgdgfhgaeddaaGreatW0
set_option linter.unusedVariables false
set_option maxRecDepth 100000
namespace Go.Proofs.YtmdgdgfhgaeddaaGreatA
open Go Go.Proofs
/-! ### trivium/triviumlaw10.few -/
noncomputable def law10_few_l0_s (x0 : List T_api_Rat) (x6 : Int) (j : Nat → D) (jb : Nat → Blk) (vs : Nat → Nat) : Cf := cfAt Tryz.f4 [1, 1, 0, 1, 0] ⟨[(.list 3 (x0.map E_api_Rat)), j 1, j 2, j 3, .nilS, .nilS, .int .i64 x6, j 7, j 8, j 9, j 10, j 11, j 12, j 13, j 14, j 15, j 16, j 17, j 18, j 19, j 20, j 21, j 22, j 23, j 24, j 25, j 26, j 27, j 28, j 29, j 30, j 31, j 32, j 33, j 34, j 35], [jb 0, jb 1, jb 2, jb 3, jb 4, jb 5, jb 6, jb 7, jb 8, jb 9, jb 10, jb 11, jb 12, jb 13, jb 14, jb 15, jb 16, jb 17, jb 18, jb 19, jb 20, jb 21, jb 22, jb 23, jb 24, jb 25, jb 26, jb 27, jb 28, jb 29, jb 30, jb 31, jb 32, jb 33, jb 34, jb 35]⟩
def law10_few_l0 (x0 : List T_api_Rat) (x6 : Int) (zt0 : List T_api_Rat) (zt1 : List T_ref08_Q) : Prop := ∀ j jb vs, W C F 4 0 (law10_few_l0_s x0 x6  j jb vs) (Ans C Tryz.f4 (.tuple [(.list 3 (zt0.map E_api_Rat)), (.list 3 (zt1.map E_ref08_Q))]))
noncomputable def law10_few_l1_s (x0 : List T_api_Rat) (x6 : Int) (r28 : List T_api_Rat) (r33 : List T_ref08_Q) (n28 : Nat) (n33 : Nat) (j : Nat → D) (jb : Nat → Blk) (vs : Nat → Nat) : Cf := cfAt Tryz.f4 [1, 1, 0, 1, 0] ⟨[(.list 3 (x0.map E_api_Rat)), j 1, j 2, j 3, (.sref 28 ((vs 28) + 1) 3 0 n28), (.sref 33 ((vs 33) + 1) 3 0 n33), .int .i64 x6, j 7, j 8, j 9, j 10, j 11, j 12, j 13, j 14, j 15, j 16, j 17, j 18, j 19, j 20, j 21, j 22, j 23, j 24, j 25, j 26, j 27, j 28, j 29, j 30, j 31, j 32, j 33, j 34, j 35], [jb 0, jb 1, jb 2, jb 3, jb 4, jb 5, jb 6, jb 7, jb 8, jb 9, jb 10, jb 11, jb 12, jb 13, jb 14, jb 15, jb 16, jb 17, jb 18, jb 19, jb 20, jb 21, jb 22, jb 23, jb 24, jb 25, jb 26, jb 27, ⟨((vs 28) + 1), false, .rows 3 (r28.map E_api_Rat)⟩, jb 29, jb 30, jb 31, jb 32, ⟨((vs 33) + 1), false, .rows 3 (r33.map E_ref08_Q)⟩, jb 34, jb 35]⟩
def law10_few_l1 (x0 : List T_api_Rat) (x6 : Int) (r28 : List T_api_Rat) (r33 : List T_ref08_Q) (zt0 : List T_api_Rat) (zt1 : List T_ref08_Q) : Prop := ∀ n28, n28 = r28.length → ∀ n33, n33 = r33.length → ∀ j jb vs, W C F 4 0 (law10_few_l1_s x0 x6 r28 r33 n28 n33 j jb vs) (Ans C Tryz.f4 (.tuple [(.list 3 (zt0.map E_api_Rat)), (.list 3 (zt1.map E_ref08_Q))]))
theorem law10_few_l0_go {x0 : List T_api_Rat} {x6 : Int} {zt0 : List T_api_Rat} {zt1 : List T_ref08_Q} (H : ((x6 < (x0.length : Int) ∧ ((x6 < 8 ∧ (0 ≤ x6 ∧ (∃ e4 : Bool, (∃ e5 : List Int, (∃ e6 : List Int, (x0.getD (x6).toNat (false, [], []) = (e4, e5, e6) ∧ (∃ c8_0 : Bool, (∃ c8_1 : List Int, (∃ c8_2 : List Int, (ref08_Clean_R e4 e5 e6 2 c8_0 c8_1 c8_2 ∧ ((1 + 192) * (56 + 1) ≤ 70368744177664 ∧ (∃ y10 : List T_api_Rat, y10 = [(c8_0, c8_1, c8_2)] ∧ (∃ c14_0 : Bool, (∃ c14_1 : List Int, (∃ c14_2 : List Int, (ref08_Of_R c8_0 c8_1 c8_2 c14_0 c14_1 c14_2 ∧ (∃ y16 : List T_ref08_Q, y16 = [(c14_0, c14_1, c14_2)] ∧ (law10_few_l1 x0 (wi (x6 + 1)) y10 y16 zt0 zt1)))))))))))))))))) ∨ (¬ x6 < 8 ∧ (zt0 = ([] : List T_api_Rat) ∧ zt1 = ([] : List T_ref08_Q))))) ∨ (¬ x6 < (x0.length : Int) ∧ (zt0 = ([] : List T_api_Rat) ∧ zt1 = ([] : List T_ref08_Q))))) : law10_few_l0 x0 x6 zt0 zt1 := by
  intro j jb vs
  refine W.adv 1 ?_
  refine W.adv 5 ?_
  refine W.opS (OpIs.ln (n := (x0.map E_api_Rat).length) (m := x0.length) (by kernel_rfl) (by rw [List.length_map])) ?_
  refine W.adv 2 ?_
  rcases H with ⟨h1, H⟩ | ⟨h1, H⟩
  · refine W.guard true (w := ((decide (x6 < (x0.length : Int))) == true)) (by kernel_rfl) (congrArg (fun b => b == true) (decide_eq_true h1)) ?_
    refine W.adv 1 ?_
    refine W.guard true (w := ((decide (x6 < (x0.length : Int))) == true)) (by kernel_rfl) (congrArg (fun b => b == true) (decide_eq_true h1)) ?_
    refine W.adv 1 ?_
    refine W.opS (OpIs.pk true (t := (decide (x6 < (x0.length : Int)))) (x := (.bool (decide (x6 < 8)))) (y := (.bool false)) (by kernel_rfl) (decide_eq_true h1)) ?_
    refine W.adv 2 ?_
    rcases H with ⟨h2, H⟩ | ⟨h2, H⟩
    · refine W.cond true (w := (decide (x6 < 8))) (by kernel_rfl) (decide_eq_true h2) ?_
      refine W.adv 8 ?_
      obtain ⟨h3, H⟩ := H
      obtain ⟨e4, e5, e6, he7, H⟩ := H
      refine W.opS (OpIs.ixE (enc := E_api_Rat) (n := 3) (k' := .i64) (L := x0) (i := x6) (d0 := (false, [], [])) (x := (e4, e5, e6)) (by kernel_rfl) h3 h1 he7) ?_
      refine W.adv 1 ?_
      obtain ⟨c8_0, c8_1, c8_2, hc9, H⟩ := H
      refine W.callR (g := 15) (ds := [(.agg [.bool e4, .ints .u64 e5, .ints .u64 e6]), .int .i64 2]) (es := [(.agg [.bool e4, .ints .u64 e5, .ints .u64 e6]), .int .i64 2]) (r := (.agg [.bool c8_0, .ints .u64 c8_1, .ints .u64 c8_2])) (by kernel_rfl) (by kernel_rfl) (Ic.args hc9 (by kernel_rfl)) (by kernel_rfl) ?_
      refine W.adv 1 ?_
      refine W.opH (OpIs.stV (b := 7) (v := ((jb 7).ver + 1)) (i := 0) (off := 0) (w := ((jb 7).ver + 1)) (n := 3) (s := 3) (xs := [(.agg [.bool false, .nilS, .nilS])]) (ys := [(.agg [.bool c8_0, .ints .u64 c8_1, .ints .u64 c8_2])]) (d := (.agg [.bool false, .nilS, .nilS])) (y := (.agg [.bool c8_0, .ints .u64 c8_1, .ints .u64 c8_2])) (by kernel_rfl) rfl (by kernel_rfl) (by kernel_rfl) (Nat.le_of_ble_eq_true (by kernel_rfl)) (by kernel_rfl) (by kernel_rfl)) ?_
      refine W.adv 4 ?_
      refine W.opS (OpIs.ldV (b := 7) (v := ((jb 7).ver + 1)) (i := 0) (off := 0) (w := ((jb 7).ver + 1)) (n := 3) (s := 3) (fz := false) (a := true) (xs := [(.agg [.bool c8_0, .ints .u64 c8_1, .ints .u64 c8_2])]) (r := (.agg [.bool c8_0, .ints .u64 c8_1, .ints .u64 c8_2])) (by kernel_rfl) rfl (by kernel_rfl)) ?_
      refine W.adv 1 ?_
      obtain ⟨h13, H⟩ := H
      obtain ⟨y10, hy11, H⟩ := H
      have ln12 : 1 = y10.length := by rw [hy11] <;> rfl
      refine W.opH (OpIs.apENil (enc := E_api_Rat) (y := (.lit (.list 3 [(.agg [.bool c8_0, .ints .u64 c8_1, .ints .u64 c8_2])]))) (B := none) (n := 56) (d := 28) (v := (jb 28).ver) (m := 3) (ys := [(c8_0, c8_1, c8_2)]) (by kernel_rfl) (by kernel_rfl) hy11 h13) ?_
      refine W.adv 1 ?_
      refine W.opS (OpIs.ldV (b := 7) (v := ((jb 7).ver + 1)) (i := 0) (off := 0) (w := ((jb 7).ver + 1)) (n := 3) (s := 3) (fz := false) (a := true) (xs := [(.agg [.bool c8_0, .ints .u64 c8_1, .ints .u64 c8_2])]) (r := (.agg [.bool c8_0, .ints .u64 c8_1, .ints .u64 c8_2])) (by kernel_rfl) rfl (by kernel_rfl)) ?_
      obtain ⟨c14_0, c14_1, c14_2, hc15, H⟩ := H
      refine W.callR (g := 14) (ds := [(.agg [.bool c8_0, .ints .u64 c8_1, .ints .u64 c8_2])]) (es := [(.agg [.bool c8_0, .ints .u64 c8_1, .ints .u64 c8_2])]) (r := (.agg [.bool c14_0, .ints .i64 c14_1, .ints .i64 c14_2])) (by kernel_rfl) (by kernel_rfl) (Ic.args hc15 (by kernel_rfl)) (by kernel_rfl) ?_
      refine W.adv 1 ?_
      obtain ⟨y16, hy17, H⟩ := H
      have ln18 : 1 = y16.length := by rw [hy17] <;> rfl
      refine W.opH (OpIs.apENil (enc := E_ref08_Q) (y := (.lit (.list 3 [(.agg [.bool c14_0, .ints .i64 c14_1, .ints .i64 c14_2])]))) (B := none) (n := 56) (d := 33) (v := (jb 33).ver) (m := 3) (ys := [(c14_0, c14_1, c14_2)]) (by kernel_rfl) (by kernel_rfl) hy17 h13) ?_
      refine W.adv 11 ?_
      exact W.to_loop (P := law10_few_l1_s x0 (wi (x6 + 1)) y10 y16 1 1) (H _ ln12 _ ln18) (by kernel_rfl)
    · refine W.cond false (w := (decide (x6 < 8))) (by kernel_rfl) (decide_eq_false h2) ?_
      refine W.adv 14 ?_
      exact W.fin (x := .ret) (by kernel_rfl) (Ans.of (d := (.tuple [.nilS, .nilS])) (d' := (.tuple [.nilS, .nilS])) (e' := (.tuple [(.list 3 (([] : List T_api_Rat).map E_api_Rat)), (.list 3 (([] : List T_ref08_Q).map E_ref08_Q))])) (by kernel_rfl) (by kernel_rfl) (by kernel_rfl) (by rw [H.1, H.2]))
  · refine W.guard false (w := ((decide (x6 < (x0.length : Int))) == true)) (by kernel_rfl) (congrArg (fun b => b == true) (decide_eq_false h1)) ?_
    refine W.guard false (w := ((decide (x6 < (x0.length : Int))) == true)) (by kernel_rfl) (congrArg (fun b => b == true) (decide_eq_false h1)) ?_
    refine W.opS (OpIs.pk false (t := (decide (x6 < (x0.length : Int)))) (x := (.tuple [])) (y := (.bool false)) (by kernel_rfl) (decide_eq_false h1)) ?_
    refine W.adv 17 ?_
    exact W.fin (x := .ret) (by kernel_rfl) (Ans.of (d := (.tuple [.nilS, .nilS])) (d' := (.tuple [.nilS, .nilS])) (e' := (.tuple [(.list 3 (([] : List T_api_Rat).map E_api_Rat)), (.list 3 (([] : List T_ref08_Q).map E_ref08_Q))])) (by kernel_rfl) (by kernel_rfl) (by kernel_rfl) (by rw [H.1, H.2]))
theorem law10_few_l1_go {x0 : List T_api_Rat} {x6 : Int} {r28 : List T_api_Rat} {r33 : List T_ref08_Q} {zt0 : List T_api_Rat} {zt1 : List T_ref08_Q} (H : ((x6 < (x0.length : Int) ∧ ((x6 < 8 ∧ (0 ≤ x6 ∧ (∃ e22 : Bool, (∃ e23 : List Int, (∃ e24 : List Int, (x0.getD (x6).toNat (false, [], []) = (e22, e23, e24) ∧ (∃ c26_0 : Bool, (∃ c26_1 : List Int, (∃ c26_2 : List Int, (ref08_Clean_R e22 e23 e24 2 c26_0 c26_1 c26_2 ∧ ((r28.length + 1 + 192) * (56 + 1) ≤ 70368744177664 ∧ (∃ y28 : List T_api_Rat, y28 = r28 ++ [(c26_0, c26_1, c26_2)] ∧ (∃ c32_0 : Bool, (∃ c32_1 : List Int, (∃ c32_2 : List Int, (ref08_Of_R c26_0 c26_1 c26_2 c32_0 c32_1 c32_2 ∧ ((r33.length + 1 + 192) * (56 + 1) ≤ 70368744177664 ∧ (∃ y34 : List T_ref08_Q, y34 = r33 ++ [(c32_0, c32_1, c32_2)] ∧ (law10_few_l1 x0 (wi (x6 + 1)) y28 y34 zt0 zt1))))))))))))))))))) ∨ (¬ x6 < 8 ∧ (zt0 = r28 ∧ zt1 = r33)))) ∨ (¬ x6 < (x0.length : Int) ∧ (zt0 = r28 ∧ zt1 = r33)))) : law10_few_l1 x0 x6 r28 r33 zt0 zt1 := by
  intro n28 ln_28 n33 ln_33 j jb vs
  refine W.adv 1 ?_
  refine W.adv 5 ?_
  refine W.opS (OpIs.ln (n := (x0.map E_api_Rat).length) (m := x0.length) (by kernel_rfl) (by rw [List.length_map])) ?_
  refine W.adv 2 ?_
  rcases H with ⟨h19, H⟩ | ⟨h19, H⟩
  · refine W.guard true (w := ((decide (x6 < (x0.length : Int))) == true)) (by kernel_rfl) (congrArg (fun b => b == true) (decide_eq_true h19)) ?_
    refine W.adv 1 ?_
    refine W.guard true (w := ((decide (x6 < (x0.length : Int))) == true)) (by kernel_rfl) (congrArg (fun b => b == true) (decide_eq_true h19)) ?_
    refine W.adv 1 ?_
    refine W.opS (OpIs.pk true (t := (decide (x6 < (x0.length : Int)))) (x := (.bool (decide (x6 < 8)))) (y := (.bool false)) (by kernel_rfl) (decide_eq_true h19)) ?_
    refine W.adv 2 ?_
    rcases H with ⟨h20, H⟩ | ⟨h20, H⟩
    · refine W.cond true (w := (decide (x6 < 8))) (by kernel_rfl) (decide_eq_true h20) ?_
      refine W.adv 8 ?_
      obtain ⟨h21, H⟩ := H
      obtain ⟨e22, e23, e24, he25, H⟩ := H
      refine W.opS (OpIs.ixE (enc := E_api_Rat) (n := 3) (k' := .i64) (L := x0) (i := x6) (d0 := (false, [], [])) (x := (e22, e23, e24)) (by kernel_rfl) h21 h19 he25) ?_
      refine W.adv 1 ?_
      obtain ⟨c26_0, c26_1, c26_2, hc27, H⟩ := H
      refine W.callR (g := 15) (ds := [(.agg [.bool e22, .ints .u64 e23, .ints .u64 e24]), .int .i64 2]) (es := [(.agg [.bool e22, .ints .u64 e23, .ints .u64 e24]), .int .i64 2]) (r := (.agg [.bool c26_0, .ints .u64 c26_1, .ints .u64 c26_2])) (by kernel_rfl) (by kernel_rfl) (Ic.args hc27 (by kernel_rfl)) (by kernel_rfl) ?_
      refine W.adv 1 ?_
      refine W.opH (OpIs.stV (b := 7) (v := ((jb 7).ver + 1)) (i := 0) (off := 0) (w := ((jb 7).ver + 1)) (n := 3) (s := 3) (xs := [(.agg [.bool false, .nilS, .nilS])]) (ys := [(.agg [.bool c26_0, .ints .u64 c26_1, .ints .u64 c26_2])]) (d := (.agg [.bool false, .nilS, .nilS])) (y := (.agg [.bool c26_0, .ints .u64 c26_1, .ints .u64 c26_2])) (by kernel_rfl) rfl (by kernel_rfl) (by kernel_rfl) (Nat.le_of_ble_eq_true (by kernel_rfl)) (by kernel_rfl) (by kernel_rfl)) ?_
      refine W.adv 4 ?_
      refine W.opS (OpIs.ldV (b := 7) (v := ((jb 7).ver + 1)) (i := 0) (off := 0) (w := ((jb 7).ver + 1)) (n := 3) (s := 3) (fz := false) (a := true) (xs := [(.agg [.bool c26_0, .ints .u64 c26_1, .ints .u64 c26_2])]) (r := (.agg [.bool c26_0, .ints .u64 c26_1, .ints .u64 c26_2])) (by kernel_rfl) rfl (by kernel_rfl)) ?_
      refine W.adv 1 ?_
      obtain ⟨h31, H⟩ := H
      obtain ⟨y28, hy29, H⟩ := H
      have ln30 : (r28.length + 1) = y28.length := by rw [hy29, List.length_append] <;> rfl
      refine W.opK (OpIs.apERow (enc := E_api_Rat) (y := (.lit (.list 3 [(.agg [.bool c26_0, .ints .u64 c26_1, .ints .u64 c26_2])]))) (n := 56) (d := 28) (dv := ((vs 28) + 1)) (b := 28) (v := ((vs 28) + 1)) (w := ((vs 28) + 1)) (len := n28) (m := 3) (xs := r28) (ys := [(c26_0, c26_1, c26_2)]) (by kernel_rfl) (by kernel_rfl) hy29 rfl ln_28 h31) ?_
      refine W.adv 1 ?_
      refine W.opS (OpIs.ldV (b := 7) (v := ((jb 7).ver + 1)) (i := 0) (off := 0) (w := ((jb 7).ver + 1)) (n := 3) (s := 3) (fz := false) (a := true) (xs := [(.agg [.bool c26_0, .ints .u64 c26_1, .ints .u64 c26_2])]) (r := (.agg [.bool c26_0, .ints .u64 c26_1, .ints .u64 c26_2])) (by kernel_rfl) rfl (by kernel_rfl)) ?_
      obtain ⟨c32_0, c32_1, c32_2, hc33, H⟩ := H
      refine W.callR (g := 14) (ds := [(.agg [.bool c26_0, .ints .u64 c26_1, .ints .u64 c26_2])]) (es := [(.agg [.bool c26_0, .ints .u64 c26_1, .ints .u64 c26_2])]) (r := (.agg [.bool c32_0, .ints .i64 c32_1, .ints .i64 c32_2])) (by kernel_rfl) (by kernel_rfl) (Ic.args hc33 (by kernel_rfl)) (by kernel_rfl) ?_
      refine W.adv 1 ?_
      obtain ⟨h37, H⟩ := H
      obtain ⟨y34, hy35, H⟩ := H
      have ln36 : (r33.length + 1) = y34.length := by rw [hy35, List.length_append] <;> rfl
      refine W.opK (OpIs.apERow (enc := E_ref08_Q) (y := (.lit (.list 3 [(.agg [.bool c32_0, .ints .i64 c32_1, .ints .i64 c32_2])]))) (n := 56) (d := 33) (dv := ((vs 33) + 1)) (b := 33) (v := ((vs 33) + 1)) (w := ((vs 33) + 1)) (len := n33) (m := 3) (xs := r33) (ys := [(c32_0, c32_1, c32_2)]) (by kernel_rfl) (by kernel_rfl) hy35 rfl ln_33 h37) ?_
      refine W.adv 11 ?_
      exact W.to_loop (P := law10_few_l1_s x0 (wi (x6 + 1)) y28 y34 (r28.length + 1) (r33.length + 1)) (H _ ln30 _ ln36) (by kernel_rfl)
    · refine W.cond false (w := (decide (x6 < 8))) (by kernel_rfl) (decide_eq_false h20) ?_
      refine W.adv 14 ?_
      exact W.fin (x := .ret) (by kernel_rfl) (Ans.of (d := (.tuple [(.sref 28 ((vs 28) + 1) 3 0 n28), (.sref 33 ((vs 33) + 1) 3 0 n33)])) (d' := (.tuple [(.list 3 (r28.map E_api_Rat)), (.list 3 (r33.map E_ref08_Q))])) (e' := (.tuple [(.list 3 (r28.map E_api_Rat)), (.list 3 (r33.map E_ref08_Q))])) (by kernel_rfl) ((congrArg (fun h => reify h DEPTH (.tuple [(.sref 28 ((vs 28) + 1) 3 0 n28), (.sref 33 ((vs 33) + 1) 3 0 n33)])) (tidy_ver (b := 28) (v := (vs 28)) (fz := false) (y := .rows 3 (r28.map E_api_Rat)) (by kernel_rfl))).trans (rf_tup (rf_cons (rf_fullE (enc := E_api_Rat) E_api_Rat_t (b := 28) (v := ((vs 28) + 1)) (w := ((vs 28) + 1)) (fz := false) (xs := r28) (by kernel_rfl) rfl ln_28) (rf_cons (rf_fullE (enc := E_ref08_Q) E_ref08_Q_t (b := 33) (v := ((vs 33) + 1)) (w := ((vs 33) + 1)) (fz := false) (xs := r33) (by kernel_rfl) rfl ln_33) rf_nil)))) (by kernel_rfl) (by rw [H.1, H.2]))
  · refine W.guard false (w := ((decide (x6 < (x0.length : Int))) == true)) (by kernel_rfl) (congrArg (fun b => b == true) (decide_eq_false h19)) ?_
    refine W.guard false (w := ((decide (x6 < (x0.length : Int))) == true)) (by kernel_rfl) (congrArg (fun b => b == true) (decide_eq_false h19)) ?_
    refine W.opS (OpIs.pk false (t := (decide (x6 < (x0.length : Int)))) (x := (.tuple [])) (y := (.bool false)) (by kernel_rfl) (decide_eq_false h19)) ?_
    refine W.adv 17 ?_
    exact W.fin (x := .ret) (by kernel_rfl) (Ans.of (d := (.tuple [(.sref 28 ((vs 28) + 1) 3 0 n28), (.sref 33 ((vs 33) + 1) 3 0 n33)])) (d' := (.tuple [(.list 3 (r28.map E_api_Rat)), (.list 3 (r33.map E_ref08_Q))])) (e' := (.tuple [(.list 3 (r28.map E_api_Rat)), (.list 3 (r33.map E_ref08_Q))])) (by kernel_rfl) ((congrArg (fun h => reify h DEPTH (.tuple [(.sref 28 ((vs 28) + 1) 3 0 n28), (.sref 33 ((vs 33) + 1) 3 0 n33)])) (tidy_ver (b := 28) (v := (vs 28)) (fz := false) (y := .rows 3 (r28.map E_api_Rat)) (by kernel_rfl))).trans (rf_tup (rf_cons (rf_fullE (enc := E_api_Rat) E_api_Rat_t (b := 28) (v := ((vs 28) + 1)) (w := ((vs 28) + 1)) (fz := false) (xs := r28) (by kernel_rfl) rfl ln_28) (rf_cons (rf_fullE (enc := E_ref08_Q) E_ref08_Q_t (b := 33) (v := ((vs 33) + 1)) (w := ((vs 33) + 1)) (fz := false) (xs := r33) (by kernel_rfl) rfl ln_33) rf_nil)))) (by kernel_rfl) (by rw [H.1, H.2]))
theorem law10_few_go {a0 : List T_api_Rat} {zt0 : List T_api_Rat} {zt1 : List T_ref08_Q} (H : (law10_few_l0 a0 0 zt0 zt1)) : law10_few_R a0 zt0 zt1 := by
  refine W.ic (zs := [(.list 3 (a0.map E_api_Rat))]) Tryz.func4 (by kernel_rfl) (by kernel_rfl) (by kernel_rfl) (by kernel_rfl) ?_
  refine W.adv 21 ?_
  exact W.to_loop (P := law10_few_l0_s a0 0) (H ) (by kernel_rfl)
/-! ### trivium/triviumlaw10.works -/
theorem law10_works_go {z : Bool} (H : (∃ c1t0 : List T_api_Rat, (∃ c1t1 : Int, (fold_Shares_R [1, 3] c1t0 c1t1 ∧ ((c1t1 = 0 ∧ (((c1t0.length : Int) = 2 ∧ (0 < (c1t0.length : Int) ∧ (∃ e6 : Bool, (∃ e7 : List Int, (∃ e8 : List Int, (c1t0.getD 0 (false, [], []) = (e6, e7, e8) ∧ (∃ c10_0 : Bool, (∃ c10_1 : List Int, (∃ c10_2 : List Int, (ref08_Num_R 1 4 c10_0 c10_1 c10_2 ∧ (∃ c12_0 : Bool, (∃ c12_1 : List Int, (∃ c12_2 : List Int, (ref08_Back_R c10_0 c10_1 c10_2 c12_0 c12_1 c12_2 ∧ (∃ c14 : Bool, (ref08_Same_R e6 e7 e8 c12_0 c12_1 c12_2 c14 ∧ ((c14 = true ∧ (1 < (c1t0.length : Int) ∧ (∃ e18 : Bool, (∃ e19 : List Int, (∃ e20 : List Int, (c1t0.getD 1 (false, [], []) = (e18, e19, e20) ∧ (∃ c22_0 : Bool, (∃ c22_1 : List Int, (∃ c22_2 : List Int, (ref08_Num_R 3 4 c22_0 c22_1 c22_2 ∧ (∃ c24_0 : Bool, (∃ c24_1 : List Int, (∃ c24_2 : List Int, (ref08_Back_R c22_0 c22_1 c22_2 c24_0 c24_1 c24_2 ∧ (∃ c26 : Bool, (ref08_Same_R e18 e19 e20 c24_0 c24_1 c24_2 c26 ∧ ((c26 = true ∧ (∃ c29 : Bool, (fold_Whole_R c1t0 c29 ∧ (z = c29)))) ∨ (¬ c26 = true ∧ (z = false))))))))))))))))))) ∨ (¬ c14 = true ∧ (z = false))))))))))))))))))) ∨ (¬ (c1t0.length : Int) = 2 ∧ (z = false)))) ∨ (¬ c1t1 = 0 ∧ (z = false))))))) : law10_works_R z := by
  refine W.ic (zs := []) Tryz.func8 (by kernel_rfl) (by kernel_rfl) (by kernel_rfl) (by kernel_rfl) ?_
  refine W.adv 8 ?_
  obtain ⟨c1t0, c1t1, hc2, H⟩ := H
  refine W.callR (g := 23) (ds := [(.lit (.ints .i64 [1, 3]))]) (es := [.ints .i64 [1, 3]]) (r := (.tuple [(.list 3 (c1t0.map E_api_Rat)), .int .i64 c1t1])) (by kernel_rfl) (by kernel_rfl) (Ic.args hc2 (by kernel_rfl)) (by kernel_rfl) ?_
  refine W.adv 12 ?_
  rcases H with ⟨h3, H⟩ | ⟨h3, H⟩
  · refine W.guard true (w := ((decide (c1t1 = 0)) == true)) (by kernel_rfl) (congrArg (fun b => b == true) (decide_eq_true h3)) ?_
    refine W.adv 1 ?_
    refine W.guard true (w := ((decide (c1t1 = 0)) == true)) (by kernel_rfl) (congrArg (fun b => b == true) (decide_eq_true h3)) ?_
    refine W.opS (OpIs.ln (n := (c1t0.map E_api_Rat).length) (m := c1t0.length) (by kernel_rfl) (by rw [List.length_map])) ?_
    refine W.guard true (w := ((decide (c1t1 = 0)) == true)) (by kernel_rfl) (congrArg (fun b => b == true) (decide_eq_true h3)) ?_
    refine W.adv 1 ?_
    refine W.opS (OpIs.pk true (t := (decide (c1t1 = 0))) (x := (.bool (decide ((c1t0.length : Int) = 2)))) (y := (.bool false)) (by kernel_rfl) (decide_eq_true h3)) ?_
    refine W.adv 1 ?_
    rcases H with ⟨h4, H⟩ | ⟨h4, H⟩
    · refine W.guard true (w := ((decide ((c1t0.length : Int) = 2)) == true)) (by kernel_rfl) (congrArg (fun b => b == true) (decide_eq_true h4)) ?_
      refine W.adv 1 ?_
      refine W.guard true (w := ((decide ((c1t0.length : Int) = 2)) == true)) (by kernel_rfl) (congrArg (fun b => b == true) (decide_eq_true h4)) ?_
      obtain ⟨h5, H⟩ := H
      obtain ⟨e6, e7, e8, he9, H⟩ := H
      refine W.opS (OpIs.ixE (enc := E_api_Rat) (n := 3) (k' := .i64) (L := c1t0) (i := 0) (d0 := (false, [], [])) (x := (e6, e7, e8)) (by kernel_rfl) (by decide) h5 he9) ?_
      refine W.guard true (w := ((decide ((c1t0.length : Int) = 2)) == true)) (by kernel_rfl) (congrArg (fun b => b == true) (decide_eq_true h4)) ?_
      refine W.adv 1 ?_
      refine W.guard true (w := ((decide ((c1t0.length : Int) = 2)) == true)) (by kernel_rfl) (congrArg (fun b => b == true) (decide_eq_true h4)) ?_
      obtain ⟨c10_0, c10_1, c10_2, hc11, H⟩ := H
      refine W.callR (g := 9) (ds := [.int .i64 1, .int .i64 4]) (es := [.int .i64 1, .int .i64 4]) (r := (.agg [.bool c10_0, .ints .i64 c10_1, .ints .i64 c10_2])) (by kernel_rfl) (by kernel_rfl) (Ic.args hc11 (by kernel_rfl)) (by kernel_rfl) ?_
      refine W.guard true (w := ((decide ((c1t0.length : Int) = 2)) == true)) (by kernel_rfl) (congrArg (fun b => b == true) (decide_eq_true h4)) ?_
      obtain ⟨c12_0, c12_1, c12_2, hc13, H⟩ := H
      refine W.callR (g := 12) (ds := [(.agg [.bool c10_0, .ints .i64 c10_1, .ints .i64 c10_2])]) (es := [(.agg [.bool c10_0, .ints .i64 c10_1, .ints .i64 c10_2])]) (r := (.agg [.bool c12_0, .ints .u64 c12_1, .ints .u64 c12_2])) (by kernel_rfl) (by kernel_rfl) (Ic.args hc13 (by kernel_rfl)) (by kernel_rfl) ?_
      refine W.guard true (w := ((decide ((c1t0.length : Int) = 2)) == true)) (by kernel_rfl) (congrArg (fun b => b == true) (decide_eq_true h4)) ?_
      obtain ⟨c14, hc15, H⟩ := H
      refine W.callR (g := 11) (ds := [(.agg [.bool e6, .ints .u64 e7, .ints .u64 e8]), (.agg [.bool c12_0, .ints .u64 c12_1, .ints .u64 c12_2])]) (es := [(.agg [.bool e6, .ints .u64 e7, .ints .u64 e8]), (.agg [.bool c12_0, .ints .u64 c12_1, .ints .u64 c12_2])]) (r := (.bool c14)) (by kernel_rfl) (by kernel_rfl) (Ic.args hc15 (by kernel_rfl)) (by kernel_rfl) ?_
      refine W.opS (OpIs.pk true (t := (decide ((c1t0.length : Int) = 2))) (x := (.bool c14)) (y := (.bool false)) (by kernel_rfl) (decide_eq_true h4)) ?_
      refine W.adv 1 ?_
      rcases H with ⟨h16, H⟩ | ⟨h16, H⟩
      · refine W.guard true (w := (c14 == true)) (by kernel_rfl) (congrArg (fun b => b == true) h16) ?_
        refine W.adv 1 ?_
        refine W.guard true (w := (c14 == true)) (by kernel_rfl) (congrArg (fun b => b == true) h16) ?_
        obtain ⟨h17, H⟩ := H
        obtain ⟨e18, e19, e20, he21, H⟩ := H
        refine W.opS (OpIs.ixE (enc := E_api_Rat) (n := 3) (k' := .i64) (L := c1t0) (i := 1) (d0 := (false, [], [])) (x := (e18, e19, e20)) (by kernel_rfl) (by decide) h17 he21) ?_
        refine W.guard true (w := (c14 == true)) (by kernel_rfl) (congrArg (fun b => b == true) h16) ?_
        refine W.adv 1 ?_
        refine W.guard true (w := (c14 == true)) (by kernel_rfl) (congrArg (fun b => b == true) h16) ?_
        obtain ⟨c22_0, c22_1, c22_2, hc23, H⟩ := H
        refine W.callR (g := 9) (ds := [.int .i64 3, .int .i64 4]) (es := [.int .i64 3, .int .i64 4]) (r := (.agg [.bool c22_0, .ints .i64 c22_1, .ints .i64 c22_2])) (by kernel_rfl) (by kernel_rfl) (Ic.args hc23 (by kernel_rfl)) (by kernel_rfl) ?_
        refine W.guard true (w := (c14 == true)) (by kernel_rfl) (congrArg (fun b => b == true) h16) ?_
        obtain ⟨c24_0, c24_1, c24_2, hc25, H⟩ := H
        refine W.callR (g := 12) (ds := [(.agg [.bool c22_0, .ints .i64 c22_1, .ints .i64 c22_2])]) (es := [(.agg [.bool c22_0, .ints .i64 c22_1, .ints .i64 c22_2])]) (r := (.agg [.bool c24_0, .ints .u64 c24_1, .ints .u64 c24_2])) (by kernel_rfl) (by kernel_rfl) (Ic.args hc25 (by kernel_rfl)) (by kernel_rfl) ?_
        refine W.guard true (w := (c14 == true)) (by kernel_rfl) (congrArg (fun b => b == true) h16) ?_
        obtain ⟨c26, hc27, H⟩ := H
        refine W.callR (g := 11) (ds := [(.agg [.bool e18, .ints .u64 e19, .ints .u64 e20]), (.agg [.bool c24_0, .ints .u64 c24_1, .ints .u64 c24_2])]) (es := [(.agg [.bool e18, .ints .u64 e19, .ints .u64 e20]), (.agg [.bool c24_0, .ints .u64 c24_1, .ints .u64 c24_2])]) (r := (.bool c26)) (by kernel_rfl) (by kernel_rfl) (Ic.args hc27 (by kernel_rfl)) (by kernel_rfl) ?_
        refine W.opS (OpIs.pk true (t := c14) (x := (.bool c26)) (y := (.bool false)) (by kernel_rfl) h16) ?_
        refine W.adv 1 ?_
        rcases H with ⟨h28, H⟩ | ⟨h28, H⟩
        · refine W.guard true (w := (c26 == true)) (by kernel_rfl) (congrArg (fun b => b == true) h28) ?_
          refine W.adv 1 ?_
          refine W.guard true (w := (c26 == true)) (by kernel_rfl) (congrArg (fun b => b == true) h28) ?_
          obtain ⟨c29, hc30, H⟩ := H
          refine W.callR (g := 24) (ds := [(.list 3 (c1t0.map E_api_Rat))]) (es := [(.list 3 (c1t0.map E_api_Rat))]) (r := (.bool c29)) (by kernel_rfl) (by kernel_rfl) (Ic.args hc30 (by kernel_rfl)) (by kernel_rfl) ?_
          refine W.opS (OpIs.pk true (t := c26) (x := (.bool c29)) (y := (.bool false)) (by kernel_rfl) h28) ?_
          refine W.adv 4 ?_
          exact W.fin (x := .ret) (by kernel_rfl) (Ans.of (d := (.bool c29)) (d' := (.bool c29)) (e' := (.bool c29)) (by kernel_rfl) (by kernel_rfl) (by kernel_rfl) (by rw [H]))
        · refine W.guard false (w := (c26 == true)) (by kernel_rfl) (congrArg (fun b => b == true) (bfalse h28)) ?_
          refine W.guard false (w := (c26 == true)) (by kernel_rfl) (congrArg (fun b => b == true) (bfalse h28)) ?_
          refine W.opS (OpIs.pk false (t := c26) (x := (.tuple [])) (y := (.bool false)) (by kernel_rfl) (bfalse h28)) ?_
          refine W.adv 4 ?_
          exact W.fin (x := .ret) (by kernel_rfl) (Ans.of (d := (.bool false)) (d' := (.bool false)) (e' := (.bool false)) (by kernel_rfl) (by kernel_rfl) (by kernel_rfl) (by rw [H]))
      · refine W.guard false (w := (c14 == true)) (by kernel_rfl) (congrArg (fun b => b == true) (bfalse h16)) ?_
        refine W.guard false (w := (c14 == true)) (by kernel_rfl) (congrArg (fun b => b == true) (bfalse h16)) ?_
        refine W.guard false (w := (c14 == true)) (by kernel_rfl) (congrArg (fun b => b == true) (bfalse h16)) ?_
        refine W.guard false (w := (c14 == true)) (by kernel_rfl) (congrArg (fun b => b == true) (bfalse h16)) ?_
        refine W.guard false (w := (c14 == true)) (by kernel_rfl) (congrArg (fun b => b == true) (bfalse h16)) ?_
        refine W.guard false (w := (c14 == true)) (by kernel_rfl) (congrArg (fun b => b == true) (bfalse h16)) ?_
        refine W.opS (OpIs.pk false (t := c14) (x := (.tuple [])) (y := (.bool false)) (by kernel_rfl) (bfalse h16)) ?_
        refine W.adv 8 ?_
        exact W.fin (x := .ret) (by kernel_rfl) (Ans.of (d := (.bool false)) (d' := (.bool false)) (e' := (.bool false)) (by kernel_rfl) (by kernel_rfl) (by kernel_rfl) (by rw [H]))
    · refine W.guard false (w := ((decide ((c1t0.length : Int) = 2)) == true)) (by kernel_rfl) (congrArg (fun b => b == true) (decide_eq_false h4)) ?_
      refine W.guard false (w := ((decide ((c1t0.length : Int) = 2)) == true)) (by kernel_rfl) (congrArg (fun b => b == true) (decide_eq_false h4)) ?_
      refine W.guard false (w := ((decide ((c1t0.length : Int) = 2)) == true)) (by kernel_rfl) (congrArg (fun b => b == true) (decide_eq_false h4)) ?_
      refine W.guard false (w := ((decide ((c1t0.length : Int) = 2)) == true)) (by kernel_rfl) (congrArg (fun b => b == true) (decide_eq_false h4)) ?_
      refine W.guard false (w := ((decide ((c1t0.length : Int) = 2)) == true)) (by kernel_rfl) (congrArg (fun b => b == true) (decide_eq_false h4)) ?_
      refine W.guard false (w := ((decide ((c1t0.length : Int) = 2)) == true)) (by kernel_rfl) (congrArg (fun b => b == true) (decide_eq_false h4)) ?_
      refine W.opS (OpIs.pk false (t := (decide ((c1t0.length : Int) = 2))) (x := (.tuple [])) (y := (.bool false)) (by kernel_rfl) (decide_eq_false h4)) ?_
      refine W.adv 16 ?_
      exact W.fin (x := .ret) (by kernel_rfl) (Ans.of (d := (.bool false)) (d' := (.bool false)) (e' := (.bool false)) (by kernel_rfl) (by kernel_rfl) (by kernel_rfl) (by rw [H]))
  · refine W.guard false (w := ((decide (c1t1 = 0)) == true)) (by kernel_rfl) (congrArg (fun b => b == true) (decide_eq_false h3)) ?_
    refine W.guard false (w := ((decide (c1t1 = 0)) == true)) (by kernel_rfl) (congrArg (fun b => b == true) (decide_eq_false h3)) ?_
    refine W.guard false (w := ((decide (c1t1 = 0)) == true)) (by kernel_rfl) (congrArg (fun b => b == true) (decide_eq_false h3)) ?_
    refine W.opS (OpIs.pk false (t := (decide (c1t1 = 0))) (x := (.tuple [])) (y := (.bool false)) (by kernel_rfl) (decide_eq_false h3)) ?_
    refine W.adv 24 ?_
    exact W.fin (x := .ret) (by kernel_rfl) (Ans.of (d := (.bool false)) (d' := (.bool false)) (e' := (.bool false)) (by kernel_rfl) (by kernel_rfl) (by kernel_rfl) (by rw [H]))
/-! ### trivium/fold.Least -/
theorem fold_Least_go {a0 : List T_api_Rat} {zt0_0 : Bool} {zt0_1 : List Int} {zt0_2 : List Int} {zt1 : Int} (H : (∃ c1t0_0 : Bool, (∃ c1t0_1 : List Int, (∃ c1t0_2 : List Int, (∃ c1t1 : Int, (fold_best_v0_R a0 c1t0_0 c1t0_1 c1t0_2 c1t1 ∧ (zt0_0 = c1t0_0 ∧ zt0_1 = c1t0_1 ∧ zt0_2 = c1t0_2 ∧ zt1 = c1t1))))))) : fold_Least_R a0 zt0_0 zt0_1 zt0_2 zt1 := by
  refine W.ic (zs := [(.list 3 (a0.map E_api_Rat))]) Tryz.func21 (by kernel_rfl) (by kernel_rfl) (by kernel_rfl) (by kernel_rfl) ?_
  refine W.adv 9 ?_
  obtain ⟨c1t0_0, c1t0_1, c1t0_2, c1t1, hc2, H⟩ := H
  refine W.callR (g := 49) (ds := [.fn 50 [] [], (.list 3 (a0.map E_api_Rat))]) (es := [.fn 50 [] [], (.list 3 (a0.map E_api_Rat))]) (r := (.tuple [(.agg [.bool c1t0_0, .ints .u64 c1t0_1, .ints .u64 c1t0_2]), .int .i64 c1t1])) (by kernel_rfl) (by kernel_rfl) (Ic.args hc2 (by kernel_rfl)) (by kernel_rfl) ?_
  refine W.adv 7 ?_
  exact W.fin (x := .ret) (by kernel_rfl) (Ans.of (d := (.tuple [(.agg [.bool c1t0_0, .ints .u64 c1t0_1, .ints .u64 c1t0_2]), .int .i64 c1t1])) (d' := (.tuple [(.agg [.bool c1t0_0, .ints .u64 c1t0_1, .ints .u64 c1t0_2]), .int .i64 c1t1])) (e' := (.tuple [(.agg [.bool c1t0_0, .ints .u64 c1t0_1, .ints .u64 c1t0_2]), .int .i64 c1t1])) (by kernel_rfl) (by kernel_rfl) (by kernel_rfl) (by rw [H.1, H.2.1, H.2.2.1, H.2.2.2]))
/-! ### trivium/fold.Greatest -/
theorem fold_Greatest_go {a0 : List T_api_Rat} {zt0_0 : Bool} {zt0_1 : List Int} {zt0_2 : List Int} {zt1 : Int} (H : (∃ c1t0_0 : Bool, (∃ c1t0_1 : List Int, (∃ c1t0_2 : List Int, (∃ c1t1 : Int, (fold_best_v1_R a0 c1t0_0 c1t0_1 c1t0_2 c1t1 ∧ (zt0_0 = c1t0_0 ∧ zt0_1 = c1t0_1 ∧ zt0_2 = c1t0_2 ∧ zt1 = c1t1))))))) : fold_Greatest_R a0 zt0_0 zt0_1 zt0_2 zt1 := by
  refine W.ic (zs := [(.list 3 (a0.map E_api_Rat))]) Tryz.func22 (by kernel_rfl) (by kernel_rfl) (by kernel_rfl) (by kernel_rfl) ?_
  refine W.adv 9 ?_
  obtain ⟨c1t0_0, c1t0_1, c1t0_2, c1t1, hc2, H⟩ := H
  refine W.callR (g := 49) (ds := [.fn 51 [] [], (.list 3 (a0.map E_api_Rat))]) (es := [.fn 51 [] [], (.list 3 (a0.map E_api_Rat))]) (r := (.tuple [(.agg [.bool c1t0_0, .ints .u64 c1t0_1, .ints .u64 c1t0_2]), .int .i64 c1t1])) (by kernel_rfl) (by kernel_rfl) (Ic.args hc2 (by kernel_rfl)) (by kernel_rfl) ?_
  refine W.adv 7 ?_
  exact W.fin (x := .ret) (by kernel_rfl) (Ans.of (d := (.tuple [(.agg [.bool c1t0_0, .ints .u64 c1t0_1, .ints .u64 c1t0_2]), .int .i64 c1t1])) (d' := (.tuple [(.agg [.bool c1t0_0, .ints .u64 c1t0_1, .ints .u64 c1t0_2]), .int .i64 c1t1])) (e' := (.tuple [(.agg [.bool c1t0_0, .ints .u64 c1t0_1, .ints .u64 c1t0_2]), .int .i64 c1t1])) (by kernel_rfl) (by kernel_rfl) (by kernel_rfl) (by rw [H.1, H.2.1, H.2.2.1, H.2.2.2]))
/-! ### trivium/fold.Shares -/
noncomputable def fold_Shares_l0_s (x15 : List Int) (x16 : Int) (x17 : Int) (j : Nat → D) (jb : Nat → Blk) (vs : Nat → Nat) : Cf := cfAt Tryz.f23 [1, 1, 1, 0, 1, 0] ⟨[j 0, j 1, j 2, j 3, .nilS, j 5, j 6, j 7, j 8, j 9, j 10, j 11, j 12, j 13, j 14, .ints .i64 x15, .int .i64 x16, .int .i64 x17, j 18, j 19, j 20, j 21, j 22, j 23, j 24, j 25, j 26, j 27, j 28, j 29, j 30, j 31, j 32, j 33, j 34, j 35, j 36, j 37, j 38, j 39, j 40, j 41, j 42, j 43, j 44, j 45, j 46, j 47, j 48, j 49, j 50, j 51, j 52], [jb 0, jb 1, jb 2, jb 3, jb 4, jb 5, jb 6, jb 7, jb 8, jb 9, jb 10, jb 11, jb 12, jb 13, jb 14, jb 15, jb 16, jb 17, jb 18, jb 19, jb 20, jb 21, jb 22, jb 23, jb 24, jb 25, jb 26, jb 27, jb 28, jb 29, jb 30, jb 31, jb 32, jb 33, jb 34, jb 35, jb 36, jb 37, jb 38, jb 39, jb 40, jb 41, jb 42, jb 43, jb 44, jb 45, jb 46, jb 47, jb 48, jb 49, jb 50, jb 51, jb 52]⟩
def fold_Shares_l0 (x15 : List Int) (x16 : Int) (x17 : Int) (zt0 : List T_api_Rat) (zt1 : Int) : Prop := ∀ j jb vs, W C F 23 0 (fold_Shares_l0_s x15 x16 x17  j jb vs) (Ans C Tryz.f23 (.tuple [(.list 3 (zt0.map E_api_Rat)), .int .i64 zt1]))
noncomputable def fold_Shares_l1_s (x15 : List Int) (x16 : Int) (x17 : Int) (r27 : List T_api_Rat) (n27 : Nat) (j : Nat → D) (jb : Nat → Blk) (vs : Nat → Nat) : Cf := cfAt Tryz.f23 [1, 1, 1, 0, 1, 0] ⟨[j 0, j 1, j 2, j 3, (.sref 27 ((vs 27) + 1) 3 0 n27), j 5, j 6, j 7, j 8, j 9, j 10, j 11, j 12, j 13, j 14, .ints .i64 x15, .int .i64 x16, .int .i64 x17, j 18, j 19, j 20, j 21, j 22, j 23, j 24, j 25, j 26, j 27, j 28, j 29, j 30, j 31, j 32, j 33, j 34, j 35, j 36, j 37, j 38, j 39, j 40, j 41, j 42, j 43, j 44, j 45, j 46, j 47, j 48, j 49, j 50, j 51, j 52], [jb 0, jb 1, jb 2, jb 3, jb 4, jb 5, jb 6, jb 7, jb 8, jb 9, jb 10, jb 11, jb 12, jb 13, jb 14, jb 15, jb 16, jb 17, jb 18, jb 19, jb 20, jb 21, jb 22, jb 23, jb 24, jb 25, jb 26, ⟨((vs 27) + 1), false, .rows 3 (r27.map E_api_Rat)⟩, jb 28, jb 29, jb 30, jb 31, jb 32, jb 33, jb 34, jb 35, jb 36, jb 37, jb 38, jb 39, jb 40, jb 41, jb 42, jb 43, jb 44, jb 45, jb 46, jb 47, jb 48, jb 49, jb 50, jb 51, jb 52]⟩
def fold_Shares_l1 (x15 : List Int) (x16 : Int) (x17 : Int) (r27 : List T_api_Rat) (zt0 : List T_api_Rat) (zt1 : Int) : Prop := ∀ n27, n27 = r27.length → ∀ j jb vs, W C F 23 0 (fold_Shares_l1_s x15 x16 x17 r27 n27 j jb vs) (Ans C Tryz.f23 (.tuple [(.list 3 (zt0.map E_api_Rat)), .int .i64 zt1]))
noncomputable def fold_Shares_l2_s (x32 : Int) (x33 : Int) (r7_0_0 : Bool) (r7_0_1 : List Int) (r7_0_2 : List Int) (j : Nat → D) (jb : Nat → Blk) (vs : Nat → Nat) : Cf := cfAt Tryz.f23 [1, 1, 1, 1, 1, 0, 1, 0] ⟨[j 0, j 1, j 2, j 3, .nilS, j 5, j 6, (.pref 7 ((vs 7) + 1) 0 0), j 8, j 9, j 10, j 11, j 12, j 13, j 14, j 15, j 16, j 17, j 18, j 19, j 20, j 21, j 22, j 23, j 24, j 25, j 26, j 27, j 28, j 29, j 30, .nilS, .int .i64 x32, .int .i64 x33, j 34, j 35, j 36, j 37, j 38, j 39, j 40, j 41, j 42, j 43, j 44, j 45, j 46, j 47, j 48, j 49, j 50, j 51, j 52], [jb 0, jb 1, jb 2, jb 3, jb 4, jb 5, jb 6, ⟨((vs 7) + 1), false, .rows 3 [(.agg [.bool r7_0_0, .ints .u64 r7_0_1, .ints .u64 r7_0_2])]⟩, jb 8, jb 9, jb 10, jb 11, jb 12, jb 13, jb 14, jb 15, jb 16, jb 17, jb 18, jb 19, jb 20, jb 21, jb 22, jb 23, jb 24, jb 25, jb 26, jb 27, jb 28, jb 29, jb 30, jb 31, jb 32, jb 33, jb 34, jb 35, jb 36, jb 37, jb 38, jb 39, jb 40, jb 41, jb 42, jb 43, jb 44, jb 45, jb 46, jb 47, jb 48, jb 49, jb 50, jb 51, jb 52]⟩
def fold_Shares_l2 (x32 : Int) (x33 : Int) (r7_0_0 : Bool) (r7_0_1 : List Int) (r7_0_2 : List Int) (zt0 : List T_api_Rat) (zt1 : Int) : Prop := ∀ j jb vs, W C F 23 0 (fold_Shares_l2_s x32 x33 r7_0_0 r7_0_1 r7_0_2  j jb vs) (Ans C Tryz.f23 (.tuple [(.list 3 (zt0.map E_api_Rat)), .int .i64 zt1]))
noncomputable def fold_Shares_l3_s (x32 : Int) (x33 : Int) (r7_0_0 : Bool) (r7_0_1 : List Int) (r7_0_2 : List Int) (r27 : List T_api_Rat) (n27 : Nat) (j : Nat → D) (jb : Nat → Blk) (vs : Nat → Nat) : Cf := cfAt Tryz.f23 [1, 1, 1, 1, 1, 0, 1, 0] ⟨[j 0, j 1, j 2, j 3, (.sref 27 ((vs 27) + 1) 3 0 n27), j 5, j 6, (.pref 7 ((vs 7) + 1) 0 0), j 8, j 9, j 10, j 11, j 12, j 13, j 14, j 15, j 16, j 17, j 18, j 19, j 20, j 21, j 22, j 23, j 24, j 25, j 26, j 27, j 28, j 29, j 30, (.sref 27 ((vs 27) + 1) 3 0 n27), .int .i64 x32, .int .i64 x33, j 34, j 35, j 36, j 37, j 38, j 39, j 40, j 41, j 42, j 43, j 44, j 45, j 46, j 47, j 48, j 49, j 50, j 51, j 52], [jb 0, jb 1, jb 2, jb 3, jb 4, jb 5, jb 6, ⟨((vs 7) + 1), false, .rows 3 [(.agg [.bool r7_0_0, .ints .u64 r7_0_1, .ints .u64 r7_0_2])]⟩, jb 8, jb 9, jb 10, jb 11, jb 12, jb 13, jb 14, jb 15, jb 16, jb 17, jb 18, jb 19, jb 20, jb 21, jb 22, jb 23, jb 24, jb 25, jb 26, ⟨((vs 27) + 1), false, .rows 3 (r27.map E_api_Rat)⟩, jb 28, jb 29, jb 30, jb 31, jb 32, jb 33, jb 34, jb 35, jb 36, jb 37, jb 38, jb 39, jb 40, jb 41, jb 42, jb 43, jb 44, jb 45, jb 46, jb 47, jb 48, jb 49, jb 50, jb 51, jb 52, jb 53, jb 54, jb 55, jb 56, jb 57, jb 58, jb 59, jb 60, jb 61, jb 62, jb 63, jb 64, jb 65, jb 66, jb 67, jb 68, jb 69, jb 70]⟩
def fold_Shares_l3 (x32 : Int) (x33 : Int) (r7_0_0 : Bool) (r7_0_1 : List Int) (r7_0_2 : List Int) (r27 : List T_api_Rat) (zt0 : List T_api_Rat) (zt1 : Int) : Prop := ∀ n27, n27 = r27.length → ∀ j jb vs, W C F 23 0 (fold_Shares_l3_s x32 x33 r7_0_0 r7_0_1 r7_0_2 r27 n27 j jb vs) (Ans C Tryz.f23 (.tuple [(.list 3 (zt0.map E_api_Rat)), .int .i64 zt1]))
theorem fold_Shares_l0_go {x15 : List Int} {x16 : Int} {x17 : Int} {zt0 : List T_api_Rat} {zt1 : Int} (H : ((x17 < x16 ∧ (0 ≤ x17 ∧ (x17 < (x15.length : Int) ∧ (((x15.getD (x17).toNat 0) < 0 ∧ (zt0 = ([] : List T_api_Rat) ∧ zt1 = 2)) ∨ (¬ (x15.getD (x17).toNat 0) < 0 ∧ (∃ c6_0 : Bool, (∃ c6_1 : List Int, (∃ c6_2 : List Int, (rat_Of_R (x15.getD (x17).toNat 0) c6_0 c6_1 c6_2 ∧ ((1 + 192) * (56 + 1) ≤ 70368744177664 ∧ (∃ y8 : List T_api_Rat, y8 = [(c6_0, c6_1, c6_2)] ∧ (fold_Shares_l1 x15 x16 (wi (x17 + 1)) y8 zt0 zt1)))))))))))) ∨ (¬ x17 < x16 ∧ (∃ c12_0 : Bool, (∃ c12_1 : List Int, (∃ c12_2 : List Int, (fold_Sum_R ([] : List T_api_Rat) c12_0 c12_1 c12_2 ∧ (fold_Shares_l2 0 0 c12_0 c12_1 c12_2 zt0 zt1)))))))) : fold_Shares_l0 x15 x16 x17 zt0 zt1 := by
  intro j jb vs
  refine W.adv 1 ?_
  refine W.adv 6 ?_
  rcases H with ⟨h2, H⟩ | ⟨h2, H⟩
  · refine W.cond true (w := (decide (x17 < x16))) (by kernel_rfl) (decide_eq_true h2) ?_
    refine W.adv 6 ?_
    obtain ⟨h3, h4, H⟩ := H
    refine W.opS (OpIs.ixI (k := .i64) (k' := .i64) (xs := x15) (i := x17) (by kernel_rfl) h3 h4) ?_
    refine W.adv 11 ?_
    rcases H with ⟨h5, H⟩ | ⟨h5, H⟩
    · refine W.cond true (w := (decide ((x15.getD (x17).toNat 0) < 0))) (by kernel_rfl) (decide_eq_true h5) ?_
      refine W.adv 13 ?_
      exact W.fin (x := .ret) (by kernel_rfl) (Ans.of (d := (.tuple [.nilS, .int .i64 2])) (d' := (.tuple [.nilS, .int .i64 2])) (e' := (.tuple [(.list 3 (([] : List T_api_Rat).map E_api_Rat)), .int .i64 2])) (by kernel_rfl) (by kernel_rfl) (by kernel_rfl) (by rw [H.1, H.2]))
    · refine W.cond false (w := (decide ((x15.getD (x17).toNat 0) < 0))) (by kernel_rfl) (decide_eq_false h5) ?_
      refine W.adv 5 ?_
      obtain ⟨c6_0, c6_1, c6_2, hc7, H⟩ := H
      refine W.callR (g := 19) (ds := [(.int .i64 (x15.getD (x17).toNat 0))]) (es := [(.int .i64 (x15.getD (x17).toNat 0))]) (r := (.agg [.bool c6_0, .ints .u64 c6_1, .ints .u64 c6_2])) (by kernel_rfl) (by kernel_rfl) (Ic.args hc7 (by kernel_rfl)) (by kernel_rfl) ?_
      refine W.adv 1 ?_
      obtain ⟨h11, H⟩ := H
      obtain ⟨y8, hy9, H⟩ := H
      have ln10 : 1 = y8.length := by rw [hy9] <;> rfl
      refine W.opH (OpIs.apENil (enc := E_api_Rat) (y := (.lit (.list 3 [(.agg [.bool c6_0, .ints .u64 c6_1, .ints .u64 c6_2])]))) (B := none) (n := 56) (d := 27) (v := (jb 27).ver) (m := 3) (ys := [(c6_0, c6_1, c6_2)]) (by kernel_rfl) (by kernel_rfl) hy9 h11) ?_
      refine W.adv 9 ?_
      exact W.to_loop (P := fold_Shares_l1_s x15 x16 (wi (x17 + 1)) y8 1) (H _ ln10) (by kernel_rfl)
  · refine W.cond false (w := (decide (x17 < x16))) (by kernel_rfl) (decide_eq_false h2) ?_
    refine W.adv 8 ?_
    obtain ⟨c12_0, c12_1, c12_2, hc13, H⟩ := H
    refine W.callT (g := 52) (ds := [.nilS]) (es := [.nilS]) (r := (.agg [.bool c12_0, .ints .u64 c12_1, .ints .u64 c12_2])) (by kernel_rfl) (by kernel_rfl) (by kernel_rfl) (Ic.args hc13 (by kernel_rfl)) ?_
    refine W.adv 1 ?_
    refine W.opH (OpIs.stV (b := 7) (v := ((jb 7).ver + 1)) (i := 0) (off := 0) (w := ((jb 7).ver + 1)) (n := 3) (s := 3) (xs := [(.agg [.bool false, .nilS, .nilS])]) (ys := [(.agg [.bool c12_0, .ints .u64 c12_1, .ints .u64 c12_2])]) (d := (.agg [.bool false, .nilS, .nilS])) (y := (.agg [.bool c12_0, .ints .u64 c12_1, .ints .u64 c12_2])) (by kernel_rfl) rfl (by kernel_rfl) (by kernel_rfl) (Nat.le_of_ble_eq_true (by kernel_rfl)) (by kernel_rfl) (by kernel_rfl)) ?_
    refine W.adv 11 ?_
    exact W.to_loop (P := fold_Shares_l2_s 0 0 c12_0 c12_1 c12_2) (H ) (by kernel_rfl)
theorem fold_Shares_l1_go {x15 : List Int} {x16 : Int} {x17 : Int} {r27 : List T_api_Rat} {zt0 : List T_api_Rat} {zt1 : Int} (H : ((x17 < x16 ∧ (0 ≤ x17 ∧ (x17 < (x15.length : Int) ∧ (((x15.getD (x17).toNat 0) < 0 ∧ (zt0 = ([] : List T_api_Rat) ∧ zt1 = 2)) ∨ (¬ (x15.getD (x17).toNat 0) < 0 ∧ (∃ c18_0 : Bool, (∃ c18_1 : List Int, (∃ c18_2 : List Int, (rat_Of_R (x15.getD (x17).toNat 0) c18_0 c18_1 c18_2 ∧ ((r27.length + 1 + 192) * (56 + 1) ≤ 70368744177664 ∧ (∃ y20 : List T_api_Rat, y20 = r27 ++ [(c18_0, c18_1, c18_2)] ∧ (fold_Shares_l1 x15 x16 (wi (x17 + 1)) y20 zt0 zt1)))))))))))) ∨ (¬ x17 < x16 ∧ (∃ c24_0 : Bool, (∃ c24_1 : List Int, (∃ c24_2 : List Int, (∃ y25 : List T_api_Rat, (y25.length = r27.length ∧ fold_Sum_S_R r27 c24_0 c24_1 c24_2 y25 ∧ (fold_Shares_l3 (y25.length : Int) 0 c24_0 c24_1 c24_2 y25 zt0 zt1))))))))) : fold_Shares_l1 x15 x16 x17 r27 zt0 zt1 := by
  intro n27 ln_27 j jb vs
  refine W.adv 1 ?_
  refine W.adv 6 ?_
  rcases H with ⟨h14, H⟩ | ⟨h14, H⟩
  · refine W.cond true (w := (decide (x17 < x16))) (by kernel_rfl) (decide_eq_true h14) ?_
    refine W.adv 6 ?_
    obtain ⟨h15, h16, H⟩ := H
    refine W.opS (OpIs.ixI (k := .i64) (k' := .i64) (xs := x15) (i := x17) (by kernel_rfl) h15 h16) ?_
    refine W.adv 11 ?_
    rcases H with ⟨h17, H⟩ | ⟨h17, H⟩
    · refine W.cond true (w := (decide ((x15.getD (x17).toNat 0) < 0))) (by kernel_rfl) (decide_eq_true h17) ?_
      refine W.adv 13 ?_
      exact W.fin (x := .ret) (by kernel_rfl) (Ans.of (d := (.tuple [.nilS, .int .i64 2])) (d' := (.tuple [.nilS, .int .i64 2])) (e' := (.tuple [(.list 3 (([] : List T_api_Rat).map E_api_Rat)), .int .i64 2])) (by kernel_rfl) (by kernel_rfl) (by kernel_rfl) (by rw [H.1, H.2]))
    · refine W.cond false (w := (decide ((x15.getD (x17).toNat 0) < 0))) (by kernel_rfl) (decide_eq_false h17) ?_
      refine W.adv 5 ?_
      obtain ⟨c18_0, c18_1, c18_2, hc19, H⟩ := H
      refine W.callR (g := 19) (ds := [(.int .i64 (x15.getD (x17).toNat 0))]) (es := [(.int .i64 (x15.getD (x17).toNat 0))]) (r := (.agg [.bool c18_0, .ints .u64 c18_1, .ints .u64 c18_2])) (by kernel_rfl) (by kernel_rfl) (Ic.args hc19 (by kernel_rfl)) (by kernel_rfl) ?_
      refine W.adv 1 ?_
      obtain ⟨h23, H⟩ := H
      obtain ⟨y20, hy21, H⟩ := H
      have ln22 : (r27.length + 1) = y20.length := by rw [hy21, List.length_append] <;> rfl
      refine W.opK (OpIs.apERow (enc := E_api_Rat) (y := (.lit (.list 3 [(.agg [.bool c18_0, .ints .u64 c18_1, .ints .u64 c18_2])]))) (n := 56) (d := 27) (dv := ((vs 27) + 1)) (b := 27) (v := ((vs 27) + 1)) (w := ((vs 27) + 1)) (len := n27) (m := 3) (xs := r27) (ys := [(c18_0, c18_1, c18_2)]) (by kernel_rfl) (by kernel_rfl) hy21 rfl ln_27 h23) ?_
      refine W.adv 9 ?_
      exact W.to_loop (P := fold_Shares_l1_s x15 x16 (wi (x17 + 1)) y20 (r27.length + 1)) (H _ ln22) (by kernel_rfl)
  · refine W.cond false (w := (decide (x17 < x16))) (by kernel_rfl) (decide_eq_false h14) ?_
    refine W.adv 8 ?_
    obtain ⟨c24_0, c24_1, c24_2, y25, hl26, hc27, H⟩ := H
    have ln28 : n27 = y25.length := by rw [hl26]; exact ln_27
    refine W.sharedK (g := 52) (ds := [(.sref 27 ((vs 27) + 1) 3 0 n27)]) (d := (.agg [.bool c24_0, .ints .u64 c24_1, .ints .u64 c24_2])) (P := (fun cb => [cb 0, cb 1, cb 2, cb 3, cb 4, cb 5, cb 6, cb 7, cb 8, cb 9, cb 10, cb 11, cb 12, cb 13, cb 14, cb 15, cb 16, cb 17, cb 18, cb 19, cb 20, cb 21, cb 22, cb 23, cb 24, cb 25, cb 26, ⟨((vs 27) + 1), false, .rows 3 (r27.map E_api_Rat)⟩, cb 28, cb 29, cb 30, cb 31, cb 32, cb 33, cb 34, cb 35, cb 36, cb 37, cb 38, cb 39, cb 40, cb 41, cb 42, cb 43, cb 44, cb 45, cb 46, cb 47, cb 48, cb 49, cb 50, cb 51, cb 52])) (P' := (fun cb eb => [cb 0, cb 1, cb 2, cb 3, cb 4, cb 5, cb 6, cb 7, cb 8, cb 9, cb 10, cb 11, cb 12, cb 13, cb 14, cb 15, cb 16, cb 17, cb 18, cb 19, cb 20, cb 21, cb 22, cb 23, cb 24, cb 25, cb 26, ⟨((vs 27) + 1), false, .rows 3 (y25.map E_api_Rat)⟩, cb 28, cb 29, cb 30, cb 31, cb 32, cb 33, cb 34, cb 35, cb 36, cb 37, cb 38, cb 39, cb 40, cb 41, cb 42, cb 43, cb 44, cb 45, cb 46, cb 47, cb 48, cb 49, cb 50, cb 51, cb 52, eb 0, eb 1, eb 2, eb 3, eb 4, eb 5, eb 6, eb 7, eb 8, eb 9, eb 10, eb 11, eb 12, eb 13, eb 14, eb 15, eb 16, eb 17])) (by kernel_rfl) (by kernel_rfl) (by kernel_rfl) (fun cb => hc27 cb _ _ ln_27) (fun eb29 => ?_)
    refine W.adv 1 ?_
    refine W.opH (OpIs.stV (b := 7) (v := ((jb 7).ver + 1)) (i := 0) (off := 0) (w := ((jb 7).ver + 1)) (n := 3) (s := 3) (xs := [(.agg [.bool false, .nilS, .nilS])]) (ys := [(.agg [.bool c24_0, .ints .u64 c24_1, .ints .u64 c24_2])]) (d := (.agg [.bool false, .nilS, .nilS])) (y := (.agg [.bool c24_0, .ints .u64 c24_1, .ints .u64 c24_2])) (by kernel_rfl) rfl (by kernel_rfl) (by kernel_rfl) (Nat.le_of_ble_eq_true (by kernel_rfl)) (by kernel_rfl) (by kernel_rfl)) ?_
    refine W.adv 6 ?_
    refine W.opS (OpIs.ln (n := n27) (m := y25.length) (by kernel_rfl) ln28) ?_
    refine W.adv 4 ?_
    exact W.to_loop (P := fold_Shares_l3_s (y25.length : Int) 0 c24_0 c24_1 c24_2 y25 n27) (H _ ln28) (by kernel_rfl)
theorem fold_Shares_l2_go {x32 : Int} {x33 : Int} {r7_0_0 : Bool} {r7_0_1 : List Int} {r7_0_2 : List Int} {zt0 : List T_api_Rat} {zt1 : Int} (H : (¬ x33 < x32 ∧ (zt0 = ([] : List T_api_Rat) ∧ zt1 = 0))) : fold_Shares_l2 x32 x33 r7_0_0 r7_0_1 r7_0_2 zt0 zt1 := by
  intro j jb vs
  refine W.adv 1 ?_
  refine W.adv 6 ?_
  obtain ⟨h30, H⟩ := H
  refine W.cond false (w := (decide (x33 < x32))) (by kernel_rfl) (decide_eq_false h30) ?_
  refine W.adv 13 ?_
  exact W.fin (x := .ret) (by kernel_rfl) (Ans.of (d := (.tuple [.nilS, .int .i64 0])) (d' := (.tuple [.nilS, .int .i64 0])) (e' := (.tuple [(.list 3 (([] : List T_api_Rat).map E_api_Rat)), .int .i64 0])) (by kernel_rfl) (by kernel_rfl) (by kernel_rfl) (by rw [H.1, H.2]))
theorem fold_Shares_l3_go {x32 : Int} {x33 : Int} {r7_0_0 : Bool} {r7_0_1 : List Int} {r7_0_2 : List Int} {r27 : List T_api_Rat} {zt0 : List T_api_Rat} {zt1 : Int} (H : ((x33 < x32 ∧ (0 ≤ x33 ∧ (x33 < (r27.length : Int) ∧ (∃ e34 : Bool, (∃ e35 : List Int, (∃ e36 : List Int, (r27.getD (x33).toNat (false, [], []) = (e34, e35, e36) ∧ (∃ c38t0_0 : Bool, (∃ c38t0_1 : List Int, (∃ c38t0_2 : List Int, (∃ c38t1 : Int, (rat_Div_R e34 e35 e36 r7_0_0 r7_0_1 r7_0_2 c38t0_0 c38t0_1 c38t0_2 c38t1 ∧ ((c38t1 = 0 ∧ (∃ y41, y41 = r27.set (x33).toNat (c38t0_0, c38t0_1, c38t0_2) ∧ (fold_Shares_l3 x32 (wi (x33 + 1)) r7_0_0 r7_0_1 r7_0_2 y41 zt0 zt1))) ∨ (¬ c38t1 = 0 ∧ (zt0 = ([] : List T_api_Rat) ∧ zt1 = c38t1))))))))))))))) ∨ (¬ x33 < x32 ∧ (zt0 = r27 ∧ zt1 = 0)))) : fold_Shares_l3 x32 x33 r7_0_0 r7_0_1 r7_0_2 r27 zt0 zt1 := by
  intro n27 ln_27 j jb vs
  refine W.adv 1 ?_
  refine W.adv 6 ?_
  rcases H with ⟨h31, H⟩ | ⟨h31, H⟩
  · refine W.cond true (w := (decide (x33 < x32))) (by kernel_rfl) (decide_eq_true h31) ?_
    refine W.adv 7 ?_
    obtain ⟨h32, h33, H⟩ := H
    refine W.opS (OpIs.ixR (k' := .i64) (b := 27) (v := ((vs 27) + 1)) (sz := 3) (len := n27) (i := x33) (by kernel_rfl) h32 (by rw [ln_27]; exact h33)) ?_
    obtain ⟨e34, e35, e36, he37, H⟩ := H
    refine W.opS (OpIs.ldE (enc := E_api_Rat) (b := 27) (v := ((vs 27) + 1)) (i := (x33).toNat) (off := 0) (w := ((vs 27) + 1)) (n := 3) (s := 3) (fz := false) (a := true) (L := r27) (d0 := (false, [], [])) (x := (e34, e35, e36)) (r := (.agg [.bool e34, .ints .u64 e35, .ints .u64 e36])) (by kernel_rfl) rfl (by omega) he37 (by kernel_rfl)) ?_
    refine W.adv 2 ?_
    refine W.opH (OpIs.stV (b := 9) (v := ((jb 9).ver + 1)) (i := 0) (off := 0) (w := ((jb 9).ver + 1)) (n := 3) (s := 3) (xs := [(.agg [.bool false, .nilS, .nilS])]) (ys := [(.agg [.bool e34, .ints .u64 e35, .ints .u64 e36])]) (d := (.agg [.bool false, .nilS, .nilS])) (y := (.agg [.bool e34, .ints .u64 e35, .ints .u64 e36])) (by kernel_rfl) rfl (by kernel_rfl) (by kernel_rfl) (Nat.le_of_ble_eq_true (by kernel_rfl)) (by kernel_rfl) (by kernel_rfl)) ?_
    refine W.adv 4 ?_
    refine W.opS (OpIs.ldV (b := 9) (v := ((jb 9).ver + 1)) (i := 0) (off := 0) (w := ((jb 9).ver + 1)) (n := 3) (s := 3) (fz := false) (a := true) (xs := [(.agg [.bool e34, .ints .u64 e35, .ints .u64 e36])]) (r := (.agg [.bool e34, .ints .u64 e35, .ints .u64 e36])) (by kernel_rfl) rfl (by kernel_rfl)) ?_
    refine W.opS (OpIs.ldV (b := 7) (v := ((vs 7) + 1)) (i := 0) (off := 0) (w := ((vs 7) + 1)) (n := 3) (s := 3) (fz := false) (a := true) (xs := [(.agg [.bool r7_0_0, .ints .u64 r7_0_1, .ints .u64 r7_0_2])]) (r := (.agg [.bool r7_0_0, .ints .u64 r7_0_1, .ints .u64 r7_0_2])) (by kernel_rfl) rfl (by kernel_rfl)) ?_
    obtain ⟨c38t0_0, c38t0_1, c38t0_2, c38t1, hc39, H⟩ := H
    refine W.callR (g := 53) (ds := [(.agg [.bool e34, .ints .u64 e35, .ints .u64 e36]), (.agg [.bool r7_0_0, .ints .u64 r7_0_1, .ints .u64 r7_0_2])]) (es := [(.agg [.bool e34, .ints .u64 e35, .ints .u64 e36]), (.agg [.bool r7_0_0, .ints .u64 r7_0_1, .ints .u64 r7_0_2])]) (r := (.tuple [(.agg [.bool c38t0_0, .ints .u64 c38t0_1, .ints .u64 c38t0_2]), .int .i64 c38t1])) (by kernel_rfl) (by kernel_rfl) (Ic.args hc39 (by kernel_rfl)) (by kernel_rfl) ?_
    refine W.adv 4 ?_
    refine W.opH (OpIs.stV (b := 10) (v := ((jb 10).ver + 1)) (i := 0) (off := 0) (w := ((jb 10).ver + 1)) (n := 3) (s := 3) (xs := [(.agg [.bool false, .nilS, .nilS])]) (ys := [(.agg [.bool c38t0_0, .ints .u64 c38t0_1, .ints .u64 c38t0_2])]) (d := (.agg [.bool false, .nilS, .nilS])) (y := (.agg [.bool c38t0_0, .ints .u64 c38t0_1, .ints .u64 c38t0_2])) (by kernel_rfl) rfl (by kernel_rfl) (by kernel_rfl) (Nat.le_of_ble_eq_true (by kernel_rfl)) (by kernel_rfl) (by kernel_rfl)) ?_
    refine W.adv 10 ?_
    rcases H with ⟨h40, H⟩ | ⟨h40, H⟩
    · refine W.cond false (w := (!(decide (c38t1 = 0)))) (by kernel_rfl) (congrArg (fun b => !b) (decide_eq_true h40)) ?_
      refine W.adv 5 ?_
      refine W.opS (OpIs.ldV (b := 10) (v := ((jb 10).ver + 1)) (i := 0) (off := 0) (w := ((jb 10).ver + 1)) (n := 3) (s := 3) (fz := false) (a := true) (xs := [(.agg [.bool c38t0_0, .ints .u64 c38t0_1, .ints .u64 c38t0_2])]) (r := (.agg [.bool c38t0_0, .ints .u64 c38t0_1, .ints .u64 c38t0_2])) (by kernel_rfl) rfl (by kernel_rfl)) ?_
      refine W.opS (OpIs.ixR (k' := .i64) (b := 27) (v := ((vs 27) + 1)) (sz := 3) (len := n27) (i := x33) (by kernel_rfl) h32 (by rw [ln_27]; exact h33)) ?_
      obtain ⟨y41, hy42, H⟩ := H
      have ln43 : n27 = y41.length := by rw [hy42, List.length_set]; exact ln_27
      refine W.opH (OpIs.stE (enc := E_api_Rat) (b := 27) (v := ((vs 27) + 1)) (i := (x33).toNat) (off := 0) (w := ((vs 27) + 1)) (n := 3) (s := 3) (L := r27) (d0 := (false, [], [])) (x := (r27.getD (x33).toNat (false, [], []))) (z := (c38t0_0, c38t0_1, c38t0_2)) (y := (.agg [.bool c38t0_0, .ints .u64 c38t0_1, .ints .u64 c38t0_2])) (by kernel_rfl) hy42 rfl (by omega) rfl (by kernel_rfl) (Nat.le_of_ble_eq_true (by kernel_rfl)) (by kernel_rfl) (by kernel_rfl)) ?_
      refine W.adv 8 ?_
      exact W.to_loop (P := fold_Shares_l3_s x32 (wi (x33 + 1)) r7_0_0 r7_0_1 r7_0_2 y41 n27) (H _ ln43) (by kernel_rfl)
    · refine W.cond true (w := (!(decide (c38t1 = 0)))) (by kernel_rfl) (congrArg (fun b => !b) (decide_eq_false h40)) ?_
      refine W.adv 14 ?_
      exact W.fin (x := .ret) (by kernel_rfl) (Ans.of (d := (.tuple [.nilS, .int .i64 c38t1])) (d' := (.tuple [.nilS, .int .i64 c38t1])) (e' := (.tuple [(.list 3 (([] : List T_api_Rat).map E_api_Rat)), .int .i64 c38t1])) (by kernel_rfl) (by kernel_rfl) (by kernel_rfl) (by rw [H.1, H.2]))
  · refine W.cond false (w := (decide (x33 < x32))) (by kernel_rfl) (decide_eq_false h31) ?_
    refine W.adv 13 ?_
    exact W.fin (x := .ret) (by kernel_rfl) (Ans.of (d := (.tuple [(.sref 27 ((vs 27) + 1) 3 0 n27), .int .i64 0])) (d' := (.tuple [(.list 3 (r27.map E_api_Rat)), .int .i64 0])) (e' := (.tuple [(.list 3 (r27.map E_api_Rat)), .int .i64 0])) (by kernel_rfl) ((congrArg (fun h => reify h DEPTH (.tuple [(.sref 27 ((vs 27) + 1) 3 0 n27), .int .i64 0])) (tidy_ver (b := 27) (v := (vs 27)) (fz := false) (y := .rows 3 (r27.map E_api_Rat)) (by kernel_rfl))).trans (rf_tup (rf_cons (rf_fullE (enc := E_api_Rat) E_api_Rat_t (b := 27) (v := ((vs 27) + 1)) (w := ((vs 27) + 1)) (fz := false) (xs := r27) (by kernel_rfl) rfl ln_27) (rf_cons (by kernel_rfl) rf_nil)))) (by kernel_rfl) (by rw [H.1, H.2]))
theorem fold_Shares_go {a0 : List Int} {zt0 : List T_api_Rat} {zt1 : Int} (H : (((a0.length : Int) = 0 ∧ (zt0 = ([] : List T_api_Rat) ∧ zt1 = 9)) ∨ (¬ (a0.length : Int) = 0 ∧ (fold_Shares_l0 a0 (a0.length : Int) 0 zt0 zt1)))) : fold_Shares_R a0 zt0 zt1 := by
  refine W.ic (zs := [.ints .i64 a0]) Tryz.func23 (by kernel_rfl) (by kernel_rfl) (by kernel_rfl) (by kernel_rfl) ?_
  refine W.adv 14 ?_
  rcases H with ⟨h1, H⟩ | ⟨h1, H⟩
  · refine W.cond true (w := (decide ((a0.length : Int) = 0))) (by kernel_rfl) (decide_eq_true h1) ?_
    refine W.adv 8 ?_
    exact W.fin (x := .ret) (by kernel_rfl) (Ans.of (d := (.tuple [.nilS, .int .i64 9])) (d' := (.tuple [.nilS, .int .i64 9])) (e' := (.tuple [(.list 3 (([] : List T_api_Rat).map E_api_Rat)), .int .i64 9])) (by kernel_rfl) (by kernel_rfl) (by kernel_rfl) (by rw [H.1, H.2]))
  · refine W.cond false (w := (decide ((a0.length : Int) = 0))) (by kernel_rfl) (decide_eq_false h1) ?_
    refine W.adv 16 ?_
    exact W.to_loop (P := fold_Shares_l0_s a0 (a0.length : Int) 0) (H ) (by kernel_rfl)
/-! ### trivium/fold.Whole -/
noncomputable def fold_Whole_l0_s (x0 : List T_api_Rat) (x5 : List T_api_Rat) (x6 : Int) (x7 : Int) (j : Nat → D) (jb : Nat → Blk) (vs : Nat → Nat) : Cf := cfAt Tryz.f24 [1, 0, 1, 0] ⟨[(.list 3 (x0.map E_api_Rat)), j 1, j 2, j 3, j 4, (.list 3 (x5.map E_api_Rat)), .int .i64 x6, .int .i64 x7, j 8, j 9, j 10, j 11, j 12, j 13, j 14, j 15, j 16, j 17, j 18, j 19, j 20, j 21, j 22, j 23], [jb 0, jb 1, jb 2, jb 3, jb 4, jb 5, jb 6, jb 7, jb 8, jb 9, jb 10, jb 11, jb 12, jb 13, jb 14, jb 15, jb 16, jb 17, jb 18, jb 19, jb 20, jb 21, jb 22, jb 23]⟩
def fold_Whole_l0 (x0 : List T_api_Rat) (x5 : List T_api_Rat) (x6 : Int) (x7 : Int) (z : Bool) : Prop := ∀ j jb vs, W C F 24 0 (fold_Whole_l0_s x0 x5 x6 x7  j jb vs) (Ans C Tryz.f24 (.bool z))
theorem fold_Whole_l0_go {x0 : List T_api_Rat} {x5 : List T_api_Rat} {x6 : Int} {x7 : Int} {z : Bool} (H : ((x7 < x6 ∧ (0 ≤ x7 ∧ (x7 < (x5.length : Int) ∧ (∃ e4 : Bool, (∃ e5 : List Int, (∃ e6 : List Int, (x5.getD (x7).toNat (false, [], []) = (e4, e5, e6) ∧ (∃ c8 : Int, (rat_Sign_R e4 e5 e6 c8 ∧ ((c8 < 0 ∧ (z = false)) ∨ (¬ c8 < 0 ∧ (∃ c11_0 : Bool, (∃ c11_1 : List Int, (∃ c11_2 : List Int, (rat_Of_R 1 c11_0 c11_1 c11_2 ∧ (∃ c13 : Int, (rat_Cmp_R e4 e5 e6 c11_0 c11_1 c11_2 c13 ∧ ((0 < c13 ∧ (z = false)) ∨ (¬ 0 < c13 ∧ (fold_Whole_l0 x0 x5 x6 (wi (x7 + 1)) z)))))))))))))))))))) ∨ (¬ x7 < x6 ∧ (∃ c16_0 : Bool, (∃ c16_1 : List Int, (∃ c16_2 : List Int, (fold_Sum_R x0 c16_0 c16_1 c16_2 ∧ (∃ c18 : Bool, (rat_One_R c16_0 c16_1 c16_2 c18 ∧ (z = c18)))))))))) : fold_Whole_l0 x0 x5 x6 x7 z := by
  intro j jb vs
  refine W.adv 1 ?_
  refine W.adv 6 ?_
  rcases H with ⟨h1, H⟩ | ⟨h1, H⟩
  · refine W.cond true (w := (decide (x7 < x6))) (by kernel_rfl) (decide_eq_true h1) ?_
    refine W.adv 6 ?_
    obtain ⟨h2, h3, H⟩ := H
    obtain ⟨e4, e5, e6, he7, H⟩ := H
    refine W.opS (OpIs.ixE (enc := E_api_Rat) (n := 3) (k' := .i64) (L := x5) (i := x7) (d0 := (false, [], [])) (x := (e4, e5, e6)) (by kernel_rfl) h2 h3 he7) ?_
    refine W.adv 2 ?_
    refine W.opH (OpIs.stV (b := 4) (v := ((jb 4).ver + 1)) (i := 0) (off := 0) (w := ((jb 4).ver + 1)) (n := 3) (s := 3) (xs := [(.agg [.bool false, .nilS, .nilS])]) (ys := [(.agg [.bool e4, .ints .u64 e5, .ints .u64 e6])]) (d := (.agg [.bool false, .nilS, .nilS])) (y := (.agg [.bool e4, .ints .u64 e5, .ints .u64 e6])) (by kernel_rfl) rfl (by kernel_rfl) (by kernel_rfl) (Nat.le_of_ble_eq_true (by kernel_rfl)) (by kernel_rfl) (by kernel_rfl)) ?_
    refine W.adv 4 ?_
    refine W.opS (OpIs.ldV (b := 4) (v := ((jb 4).ver + 1)) (i := 0) (off := 0) (w := ((jb 4).ver + 1)) (n := 3) (s := 3) (fz := false) (a := true) (xs := [(.agg [.bool e4, .ints .u64 e5, .ints .u64 e6])]) (r := (.agg [.bool e4, .ints .u64 e5, .ints .u64 e6])) (by kernel_rfl) rfl (by kernel_rfl)) ?_
    obtain ⟨c8, hc9, H⟩ := H
    refine W.callR (g := 54) (ds := [(.agg [.bool e4, .ints .u64 e5, .ints .u64 e6])]) (es := [(.agg [.bool e4, .ints .u64 e5, .ints .u64 e6])]) (r := (.int .i64 c8)) (by kernel_rfl) (by kernel_rfl) (Ic.args hc9 (by kernel_rfl)) (by kernel_rfl) ?_
    refine W.adv 2 ?_
    rcases H with ⟨h10, H⟩ | ⟨h10, H⟩
    · refine W.guard false (w := ((decide (c8 < 0)) == false)) (by kernel_rfl) (congrArg (fun b => b == false) (decide_eq_true h10)) ?_
      refine W.guard false (w := ((decide (c8 < 0)) == false)) (by kernel_rfl) (congrArg (fun b => b == false) (decide_eq_true h10)) ?_
      refine W.guard false (w := ((decide (c8 < 0)) == false)) (by kernel_rfl) (congrArg (fun b => b == false) (decide_eq_true h10)) ?_
      refine W.guard false (w := ((decide (c8 < 0)) == false)) (by kernel_rfl) (congrArg (fun b => b == false) (decide_eq_true h10)) ?_
      refine W.opS (OpIs.pk true (t := (decide (c8 < 0))) (x := (.bool true)) (y := (.tuple [])) (by kernel_rfl) (decide_eq_true h10)) ?_
      refine W.adv 14 ?_
      exact W.fin (x := .ret) (by kernel_rfl) (Ans.of (d := (.bool false)) (d' := (.bool false)) (e' := (.bool false)) (by kernel_rfl) (by kernel_rfl) (by kernel_rfl) (by rw [H]))
    · refine W.guard true (w := ((decide (c8 < 0)) == false)) (by kernel_rfl) (congrArg (fun b => b == false) (decide_eq_false h10)) ?_
      refine W.opS (OpIs.ldV (b := 4) (v := ((jb 4).ver + 1)) (i := 0) (off := 0) (w := ((jb 4).ver + 1)) (n := 3) (s := 3) (fz := false) (a := true) (xs := [(.agg [.bool e4, .ints .u64 e5, .ints .u64 e6])]) (r := (.agg [.bool e4, .ints .u64 e5, .ints .u64 e6])) (by kernel_rfl) rfl (by kernel_rfl)) ?_
      refine W.guard true (w := ((decide (c8 < 0)) == false)) (by kernel_rfl) (congrArg (fun b => b == false) (decide_eq_false h10)) ?_
      obtain ⟨c11_0, c11_1, c11_2, hc12, H⟩ := H
      refine W.callR (g := 19) (ds := [.int .i64 1]) (es := [.int .i64 1]) (r := (.agg [.bool c11_0, .ints .u64 c11_1, .ints .u64 c11_2])) (by kernel_rfl) (by kernel_rfl) (Ic.args hc12 (by kernel_rfl)) (by kernel_rfl) ?_
      refine W.guard true (w := ((decide (c8 < 0)) == false)) (by kernel_rfl) (congrArg (fun b => b == false) (decide_eq_false h10)) ?_
      obtain ⟨c13, hc14, H⟩ := H
      refine W.callR (g := 18) (ds := [(.agg [.bool e4, .ints .u64 e5, .ints .u64 e6]), (.agg [.bool c11_0, .ints .u64 c11_1, .ints .u64 c11_2])]) (es := [(.agg [.bool e4, .ints .u64 e5, .ints .u64 e6]), (.agg [.bool c11_0, .ints .u64 c11_1, .ints .u64 c11_2])]) (r := (.int .i64 c13)) (by kernel_rfl) (by kernel_rfl) (Ic.args hc14 (by kernel_rfl)) (by kernel_rfl) ?_
      refine W.guard true (w := ((decide (c8 < 0)) == false)) (by kernel_rfl) (congrArg (fun b => b == false) (decide_eq_false h10)) ?_
      refine W.adv 1 ?_
      refine W.opS (OpIs.pk false (t := (decide (c8 < 0))) (x := (.bool true)) (y := (.bool (decide (0 < c13)))) (by kernel_rfl) (decide_eq_false h10)) ?_
      refine W.adv 2 ?_
      rcases H with ⟨h15, H⟩ | ⟨h15, H⟩
      · refine W.cond true (w := (decide (0 < c13))) (by kernel_rfl) (decide_eq_true h15) ?_
        refine W.adv 11 ?_
        exact W.fin (x := .ret) (by kernel_rfl) (Ans.of (d := (.bool false)) (d' := (.bool false)) (e' := (.bool false)) (by kernel_rfl) (by kernel_rfl) (by kernel_rfl) (by rw [H]))
      · refine W.cond false (w := (decide (0 < c13))) (by kernel_rfl) (decide_eq_false h15) ?_
        refine W.adv 8 ?_
        exact W.to_loop (P := fold_Whole_l0_s x0 x5 x6 (wi (x7 + 1))) (H ) (by kernel_rfl)
  · refine W.cond false (w := (decide (x7 < x6))) (by kernel_rfl) (decide_eq_false h1) ?_
    refine W.adv 8 ?_
    obtain ⟨c16_0, c16_1, c16_2, hc17, H⟩ := H
    refine W.callT (g := 52) (ds := [(.list 3 (x0.map E_api_Rat))]) (es := [(.list 3 (x0.map E_api_Rat))]) (r := (.agg [.bool c16_0, .ints .u64 c16_1, .ints .u64 c16_2])) (by kernel_rfl) (by kernel_rfl) (by kernel_rfl) (Ic.args hc17 (by kernel_rfl)) ?_
    obtain ⟨c18, hc19, H⟩ := H
    refine W.callR (g := 55) (ds := [(.agg [.bool c16_0, .ints .u64 c16_1, .ints .u64 c16_2])]) (es := [(.agg [.bool c16_0, .ints .u64 c16_1, .ints .u64 c16_2])]) (r := (.bool c18)) (by kernel_rfl) (by kernel_rfl) (Ic.args hc19 (by kernel_rfl)) (by kernel_rfl) ?_
    refine W.adv 4 ?_
    exact W.fin (x := .ret) (by kernel_rfl) (Ans.of (d := (.bool c18)) (d' := (.bool c18)) (e' := (.bool c18)) (by kernel_rfl) (by kernel_rfl) (by kernel_rfl) (by rw [H]))
theorem fold_Whole_go {a0 : List T_api_Rat} {z : Bool} (H : (fold_Whole_l0 a0 a0 (a0.length : Int) 0 z)) : fold_Whole_R a0 z := by
  refine W.ic (zs := [(.list 3 (a0.map E_api_Rat))]) Tryz.func24 (by kernel_rfl) (by kernel_rfl) (by kernel_rfl) (by kernel_rfl) ?_
  refine W.adv 9 ?_
  refine W.opS (OpIs.ln (n := (a0.map E_api_Rat).length) (m := a0.length) (by kernel_rfl) (by rw [List.length_map])) ?_
  refine W.adv 4 ?_
  exact W.to_loop (P := fold_Whole_l0_s a0 a0 (a0.length : Int) 0) (H ) (by kernel_rfl)
/-! ### trivium/fold.Least$1 -/
theorem fold_Least_1_go {a0_0 : Bool} {a0_1 : List Int} {a0_2 : List Int} {a1_0 : Bool} {a1_1 : List Int} {a1_2 : List Int} {z : Bool} (H : (∃ c1 : Int, (rat_Cmp_R a0_0 a0_1 a0_2 a1_0 a1_1 a1_2 c1 ∧ (z = (decide (c1 < 0)))))) : fold_Least_1_R a0_0 a0_1 a0_2 a1_0 a1_1 a1_2 z := by
  refine W.ic (zs := [(.agg [.bool a0_0, .ints .u64 a0_1, .ints .u64 a0_2]), (.agg [.bool a1_0, .ints .u64 a1_1, .ints .u64 a1_2])]) Tryz.func50 (by kernel_rfl) (by kernel_rfl) (by kernel_rfl) (by kernel_rfl) ?_
  refine W.adv 11 ?_
  obtain ⟨c1, hc2, H⟩ := H
  refine W.callR (g := 18) (ds := [(.agg [.bool a0_0, .ints .u64 a0_1, .ints .u64 a0_2]), (.agg [.bool a1_0, .ints .u64 a1_1, .ints .u64 a1_2])]) (es := [(.agg [.bool a0_0, .ints .u64 a0_1, .ints .u64 a0_2]), (.agg [.bool a1_0, .ints .u64 a1_1, .ints .u64 a1_2])]) (r := (.int .i64 c1)) (by kernel_rfl) (by kernel_rfl) (Ic.args hc2 (by kernel_rfl)) (by kernel_rfl) ?_
  refine W.adv 5 ?_
  exact W.fin (x := .ret) (by kernel_rfl) (Ans.of (d := (.bool (decide (c1 < 0)))) (d' := (.bool (decide (c1 < 0)))) (e' := (.bool (decide (c1 < 0)))) (by kernel_rfl) (by kernel_rfl) (by kernel_rfl) (by rw [H]))
/-! ### trivium/fold.Greatest$1 -/
theorem fold_Greatest_1_go {a0_0 : Bool} {a0_1 : List Int} {a0_2 : List Int} {a1_0 : Bool} {a1_1 : List Int} {a1_2 : List Int} {z : Bool} (H : (∃ c1 : Int, (rat_Cmp_R a0_0 a0_1 a0_2 a1_0 a1_1 a1_2 c1 ∧ (z = (decide (0 < c1)))))) : fold_Greatest_1_R a0_0 a0_1 a0_2 a1_0 a1_1 a1_2 z := by
  refine W.ic (zs := [(.agg [.bool a0_0, .ints .u64 a0_1, .ints .u64 a0_2]), (.agg [.bool a1_0, .ints .u64 a1_1, .ints .u64 a1_2])]) Tryz.func51 (by kernel_rfl) (by kernel_rfl) (by kernel_rfl) (by kernel_rfl) ?_
  refine W.adv 11 ?_
  obtain ⟨c1, hc2, H⟩ := H
  refine W.callR (g := 18) (ds := [(.agg [.bool a0_0, .ints .u64 a0_1, .ints .u64 a0_2]), (.agg [.bool a1_0, .ints .u64 a1_1, .ints .u64 a1_2])]) (es := [(.agg [.bool a0_0, .ints .u64 a0_1, .ints .u64 a0_2]), (.agg [.bool a1_0, .ints .u64 a1_1, .ints .u64 a1_2])]) (r := (.int .i64 c1)) (by kernel_rfl) (by kernel_rfl) (Ic.args hc2 (by kernel_rfl)) (by kernel_rfl) ?_
  refine W.adv 5 ?_
  exact W.fin (x := .ret) (by kernel_rfl) (Ans.of (d := (.bool (decide (0 < c1)))) (d' := (.bool (decide (0 < c1)))) (e' := (.bool (decide (0 < c1)))) (by kernel_rfl) (by kernel_rfl) (by kernel_rfl) (by rw [H]))
/-! ### trivium/fold.Sum -/
noncomputable def fold_Sum_l0_s (x7 : List T_api_Rat) (x8 : Int) (x9 : Int) (r2_0_0 : Bool) (r3_0_0 : Bool) (r3_0_1 : List Int) (r3_0_2 : List Int) (j : Nat → D) (jb : Nat → Blk) (vs : Nat → Nat) : Cf := cfAt Tryz.f52 [1, 1, 0, 1, 0] ⟨[j 0, j 1, .pref 2 1 0 0, .pref 3 1 0 0, j 4, j 5, j 6, (.list 3 (x7.map E_api_Rat)), .int .i64 x8, .int .i64 x9, j 10, j 11, j 12, j 13, j 14, j 15, j 16, j 17], [jb 0, jb 1, ⟨1, false, .rows 3 [(.agg [.bool r2_0_0, .nilS, .nilS])]⟩, ⟨1, false, .rows 3 [(.agg [.bool r3_0_0, .ints .u64 r3_0_1, .ints .u64 r3_0_2])]⟩, jb 4, jb 5, jb 6, jb 7, jb 8, jb 9, jb 10, jb 11, jb 12, jb 13, jb 14, jb 15, jb 16, jb 17]⟩
def fold_Sum_l0 (x7 : List T_api_Rat) (x8 : Int) (x9 : Int) (r2_0_0 : Bool) (r3_0_0 : Bool) (r3_0_1 : List Int) (r3_0_2 : List Int) (z_0 : Bool) (z_1 : List Int) (z_2 : List Int) : Prop := ∀ j jb vs, W C F 52 0 (fold_Sum_l0_s x7 x8 x9 r2_0_0 r3_0_0 r3_0_1 r3_0_2  j jb vs) (Ans C Tryz.f52 (.agg [.bool z_0, .ints .u64 z_1, .ints .u64 z_2]))
theorem fold_Sum_l0_go {x7 : List T_api_Rat} {x8 : Int} {x9 : Int} {r2_0_0 : Bool} {r3_0_0 : Bool} {r3_0_1 : List Int} {r3_0_2 : List Int} {z_0 : Bool} {z_1 : List Int} {z_2 : List Int} (H : ((x9 < x8 ∧ (0 ≤ x9 ∧ (x9 < (x7.length : Int) ∧ (∃ e6 : Bool, (∃ e7 : List Int, (∃ e8 : List Int, (x7.getD (x9).toNat (false, [], []) = (e6, e7, e8) ∧ (∃ c10_0 : Bool, (∃ c10_1 : List Int, (∃ c10_2 : List Int, (rat_Add_R r3_0_0 r3_0_1 r3_0_2 e6 e7 e8 c10_0 c10_1 c10_2 ∧ (fold_Sum_l0 x7 x8 (wi (x9 + 1)) r2_0_0 c10_0 c10_1 c10_2 z_0 z_1 z_2)))))))))))) ∨ (¬ x9 < x8 ∧ (z_0 = r3_0_0 ∧ z_1 = r3_0_1 ∧ z_2 = r3_0_2)))) : fold_Sum_l0 x7 x8 x9 r2_0_0 r3_0_0 r3_0_1 r3_0_2 z_0 z_1 z_2 := by
  intro j jb vs
  refine W.adv 1 ?_
  refine W.adv 6 ?_
  rcases H with ⟨h3, H⟩ | ⟨h3, H⟩
  · refine W.cond true (w := (decide (x9 < x8))) (by kernel_rfl) (decide_eq_true h3) ?_
    refine W.adv 6 ?_
    obtain ⟨h4, h5, H⟩ := H
    obtain ⟨e6, e7, e8, he9, H⟩ := H
    refine W.opS (OpIs.ixE (enc := E_api_Rat) (n := 3) (k' := .i64) (L := x7) (i := x9) (d0 := (false, [], [])) (x := (e6, e7, e8)) (by kernel_rfl) h4 h5 he9) ?_
    refine W.adv 2 ?_
    refine W.opH (OpIs.stV (b := 5) (v := ((jb 5).ver + 1)) (i := 0) (off := 0) (w := ((jb 5).ver + 1)) (n := 3) (s := 3) (xs := [(.agg [.bool false, .nilS, .nilS])]) (ys := [(.agg [.bool e6, .ints .u64 e7, .ints .u64 e8])]) (d := (.agg [.bool false, .nilS, .nilS])) (y := (.agg [.bool e6, .ints .u64 e7, .ints .u64 e8])) (by kernel_rfl) rfl (by kernel_rfl) (by kernel_rfl) (Nat.le_of_ble_eq_true (by kernel_rfl)) (by kernel_rfl) (by kernel_rfl)) ?_
    refine W.adv 4 ?_
    refine W.opS (OpIs.ldV (b := 5) (v := ((jb 5).ver + 1)) (i := 0) (off := 0) (w := ((jb 5).ver + 1)) (n := 3) (s := 3) (fz := false) (a := true) (xs := [(.agg [.bool e6, .ints .u64 e7, .ints .u64 e8])]) (r := (.agg [.bool e6, .ints .u64 e7, .ints .u64 e8])) (by kernel_rfl) rfl (by kernel_rfl)) ?_
    obtain ⟨c10_0, c10_1, c10_2, hc11, H⟩ := H
    refine W.callR (g := 20) (ds := [(.agg [.bool r3_0_0, .ints .u64 r3_0_1, .ints .u64 r3_0_2]), (.agg [.bool e6, .ints .u64 e7, .ints .u64 e8])]) (es := [(.agg [.bool r3_0_0, .ints .u64 r3_0_1, .ints .u64 r3_0_2]), (.agg [.bool e6, .ints .u64 e7, .ints .u64 e8])]) (r := (.agg [.bool c10_0, .ints .u64 c10_1, .ints .u64 c10_2])) (by kernel_rfl) (by kernel_rfl) (Ic.args hc11 (by kernel_rfl)) (by kernel_rfl) ?_
    refine W.adv 9 ?_
    exact W.to_loop (P := fold_Sum_l0_s x7 x8 (wi (x9 + 1)) r2_0_0 c10_0 c10_1 c10_2) (H ) (by kernel_rfl)
  · refine W.cond false (w := (decide (x9 < x8))) (by kernel_rfl) (decide_eq_false h3) ?_
    refine W.adv 12 ?_
    exact W.fin (x := .ret) (by kernel_rfl) (Ans.of (d := (.agg [.bool r3_0_0, .ints .u64 r3_0_1, .ints .u64 r3_0_2])) (d' := (.agg [.bool r3_0_0, .ints .u64 r3_0_1, .ints .u64 r3_0_2])) (e' := (.agg [.bool r3_0_0, .ints .u64 r3_0_1, .ints .u64 r3_0_2])) (by kernel_rfl) (by kernel_rfl) (by kernel_rfl) (by rw [H.1, H.2.1, H.2.2]))
theorem fold_Sum_go {a0 : List T_api_Rat} {z_0 : Bool} {z_1 : List Int} {z_2 : List Int} (H : (∃ c1_0 : Bool, (∃ c1_1 : List Int, (∃ c1_2 : List Int, (rat_Of_R 0 c1_0 c1_1 c1_2 ∧ (fold_Sum_l0 a0 (a0.length : Int) 0 false c1_0 c1_1 c1_2 z_0 z_1 z_2)))))) : fold_Sum_R a0 z_0 z_1 z_2 := by
  refine W.ic (zs := [(.list 3 (a0.map E_api_Rat))]) Tryz.func52 (by kernel_rfl) (by kernel_rfl) (by kernel_rfl) (by kernel_rfl) ?_
  refine W.adv 7 ?_
  obtain ⟨c1_0, c1_1, c1_2, hc2, H⟩ := H
  refine W.callR (g := 19) (ds := [.int .i64 0]) (es := [.int .i64 0]) (r := (.agg [.bool c1_0, .ints .u64 c1_1, .ints .u64 c1_2])) (by kernel_rfl) (by kernel_rfl) (Ic.args hc2 (by kernel_rfl)) (by kernel_rfl) ?_
  refine W.adv 8 ?_
  refine W.opS (OpIs.ln (n := (a0.map E_api_Rat).length) (m := a0.length) (by kernel_rfl) (by rw [List.length_map])) ?_
  refine W.adv 4 ?_
  exact W.to_loop (P := fold_Sum_l0_s a0 (a0.length : Int) 0 false c1_0 c1_1 c1_2) (H ) (by kernel_rfl)
/-! ### trivium/fold.best -/
noncomputable def fold_best_v0_l0_s (x17 : List T_api_Rat) (x18 : Int) (x19 : Int) (r4_0_0 : Bool) (r6_0_0 : Bool) (r6_0_1 : List Int) (r6_0_2 : List Int) (j : Nat → D) (jb : Nat → Blk) (vs : Nat → Nat) : Cf := cfAt Tryz.f49 [1, 1, 1, 0, 1, 0] ⟨[.fn 50 [] [], j 1, j 2, j 3, .pref 4 1 0 0, j 5, .pref 6 1 0 0, j 7, j 8, j 9, j 10, j 11, j 12, j 13, j 14, j 15, j 16, (.list 3 (x17.map E_api_Rat)), .int .i64 x18, .int .i64 x19, j 20, j 21, j 22, j 23, j 24, j 25, j 26, j 27, j 28, j 29, j 30, j 31], [jb 0, jb 1, jb 2, jb 3, ⟨1, false, .rows 3 [(.agg [.bool r4_0_0, .nilS, .nilS])]⟩, jb 5, ⟨1, false, .rows 3 [(.agg [.bool r6_0_0, .ints .u64 r6_0_1, .ints .u64 r6_0_2])]⟩, jb 7, jb 8, jb 9, jb 10, jb 11, jb 12, jb 13, jb 14, jb 15, jb 16, jb 17, jb 18, jb 19, jb 20, jb 21, jb 22, jb 23, jb 24, jb 25, jb 26, jb 27, jb 28, jb 29, jb 30, jb 31]⟩
def fold_best_v0_l0 (x17 : List T_api_Rat) (x18 : Int) (x19 : Int) (r4_0_0 : Bool) (r6_0_0 : Bool) (r6_0_1 : List Int) (r6_0_2 : List Int) (zt0_0 : Bool) (zt0_1 : List Int) (zt0_2 : List Int) (zt1 : Int) : Prop := ∀ j jb vs, W C F 49 0 (fold_best_v0_l0_s x17 x18 x19 r4_0_0 r6_0_0 r6_0_1 r6_0_2  j jb vs) (Ans C Tryz.f49 (.tuple [(.agg [.bool zt0_0, .ints .u64 zt0_1, .ints .u64 zt0_2]), .int .i64 zt1]))
theorem fold_best_v0_l0_go {x17 : List T_api_Rat} {x18 : Int} {x19 : Int} {r4_0_0 : Bool} {r6_0_0 : Bool} {r6_0_1 : List Int} {r6_0_2 : List Int} {zt0_0 : Bool} {zt0_1 : List Int} {zt0_2 : List Int} {zt1 : Int} (H : ((x19 < x18 ∧ (0 ≤ x19 ∧ (x19 < (x17.length : Int) ∧ (∃ e11 : Bool, (∃ e12 : List Int, (∃ e13 : List Int, (x17.getD (x19).toNat (false, [], []) = (e11, e12, e13) ∧ (∃ c15 : Bool, (fold_Least_1_R e11 e12 e13 r6_0_0 r6_0_1 r6_0_2 c15 ∧ ((c15 = true ∧ (fold_best_v0_l0 x17 x18 (wi (x19 + 1)) r4_0_0 e11 e12 e13 zt0_0 zt0_1 zt0_2 zt1)) ∨ (¬ c15 = true ∧ (fold_best_v0_l0 x17 x18 (wi (x19 + 1)) r4_0_0 r6_0_0 r6_0_1 r6_0_2 zt0_0 zt0_1 zt0_2 zt1)))))))))))) ∨ (¬ x19 < x18 ∧ (∃ c18_0 : Bool, (∃ c18_1 : List Int, (∃ c18_2 : List Int, (rat_Neg_R r6_0_0 r6_0_1 r6_0_2 c18_0 c18_1 c18_2 ∧ (∃ c20_0 : Bool, (∃ c20_1 : List Int, (∃ c20_2 : List Int, (rat_Neg_R c18_0 c18_1 c18_2 c20_0 c20_1 c20_2 ∧ (zt0_0 = c20_0 ∧ zt0_1 = c20_1 ∧ zt0_2 = c20_2 ∧ zt1 = 0)))))))))))) : fold_best_v0_l0 x17 x18 x19 r4_0_0 r6_0_0 r6_0_1 r6_0_2 zt0_0 zt0_1 zt0_2 zt1 := by
  intro j jb vs
  refine W.adv 1 ?_
  refine W.adv 6 ?_
  rcases H with ⟨h8, H⟩ | ⟨h8, H⟩
  · refine W.cond true (w := (decide (x19 < x18))) (by kernel_rfl) (decide_eq_true h8) ?_
    refine W.adv 6 ?_
    obtain ⟨h9, h10, H⟩ := H
    obtain ⟨e11, e12, e13, he14, H⟩ := H
    refine W.opS (OpIs.ixE (enc := E_api_Rat) (n := 3) (k' := .i64) (L := x17) (i := x19) (d0 := (false, [], [])) (x := (e11, e12, e13)) (by kernel_rfl) h9 h10 he14) ?_
    refine W.adv 2 ?_
    refine W.opH (OpIs.stV (b := 8) (v := ((jb 8).ver + 1)) (i := 0) (off := 0) (w := ((jb 8).ver + 1)) (n := 3) (s := 3) (xs := [(.agg [.bool false, .nilS, .nilS])]) (ys := [(.agg [.bool e11, .ints .u64 e12, .ints .u64 e13])]) (d := (.agg [.bool false, .nilS, .nilS])) (y := (.agg [.bool e11, .ints .u64 e12, .ints .u64 e13])) (by kernel_rfl) rfl (by kernel_rfl) (by kernel_rfl) (Nat.le_of_ble_eq_true (by kernel_rfl)) (by kernel_rfl) (by kernel_rfl)) ?_
    refine W.adv 5 ?_
    refine W.opS (OpIs.ldV (b := 8) (v := ((jb 8).ver + 1)) (i := 0) (off := 0) (w := ((jb 8).ver + 1)) (n := 3) (s := 3) (fz := false) (a := true) (xs := [(.agg [.bool e11, .ints .u64 e12, .ints .u64 e13])]) (r := (.agg [.bool e11, .ints .u64 e12, .ints .u64 e13])) (by kernel_rfl) rfl (by kernel_rfl)) ?_
    refine W.adv 1 ?_
    obtain ⟨c15, hc16, H⟩ := H
    refine W.callR (g := 50) (ds := [(.agg [.bool e11, .ints .u64 e12, .ints .u64 e13]), (.agg [.bool r6_0_0, .ints .u64 r6_0_1, .ints .u64 r6_0_2])]) (es := [(.agg [.bool e11, .ints .u64 e12, .ints .u64 e13]), (.agg [.bool r6_0_0, .ints .u64 r6_0_1, .ints .u64 r6_0_2])]) (r := (.bool c15)) (by kernel_rfl) (by kernel_rfl) (Ic.args hc16 (by kernel_rfl)) (by kernel_rfl) ?_
    refine W.adv 2 ?_
    rcases H with ⟨h17, H⟩ | ⟨h17, H⟩
    · refine W.cond true (w := c15) (by kernel_rfl) h17 ?_
      refine W.adv 1 ?_
      refine W.opS (OpIs.ldV (b := 8) (v := ((jb 8).ver + 1)) (i := 0) (off := 0) (w := ((jb 8).ver + 1)) (n := 3) (s := 3) (fz := false) (a := true) (xs := [(.agg [.bool e11, .ints .u64 e12, .ints .u64 e13])]) (r := (.agg [.bool e11, .ints .u64 e12, .ints .u64 e13])) (by kernel_rfl) rfl (by kernel_rfl)) ?_
      refine W.adv 9 ?_
      exact W.to_loop (P := fold_best_v0_l0_s x17 x18 (wi (x19 + 1)) r4_0_0 e11 e12 e13) (H ) (by kernel_rfl)
    · refine W.cond false (w := c15) (by kernel_rfl) (bfalse h17) ?_
      refine W.adv 8 ?_
      exact W.to_loop (P := fold_best_v0_l0_s x17 x18 (wi (x19 + 1)) r4_0_0 r6_0_0 r6_0_1 r6_0_2) (H ) (by kernel_rfl)
  · refine W.cond false (w := (decide (x19 < x18))) (by kernel_rfl) (decide_eq_false h8) ?_
    refine W.adv 8 ?_
    obtain ⟨c18_0, c18_1, c18_2, hc19, H⟩ := H
    refine W.callR (g := 77) (ds := [(.agg [.bool r6_0_0, .ints .u64 r6_0_1, .ints .u64 r6_0_2])]) (es := [(.agg [.bool r6_0_0, .ints .u64 r6_0_1, .ints .u64 r6_0_2])]) (r := (.agg [.bool c18_0, .ints .u64 c18_1, .ints .u64 c18_2])) (by kernel_rfl) (by kernel_rfl) (Ic.args hc19 (by kernel_rfl)) (by kernel_rfl) ?_
    obtain ⟨c20_0, c20_1, c20_2, hc21, H⟩ := H
    refine W.callR (g := 77) (ds := [(.agg [.bool c18_0, .ints .u64 c18_1, .ints .u64 c18_2])]) (es := [(.agg [.bool c18_0, .ints .u64 c18_1, .ints .u64 c18_2])]) (r := (.agg [.bool c20_0, .ints .u64 c20_1, .ints .u64 c20_2])) (by kernel_rfl) (by kernel_rfl) (Ic.args hc21 (by kernel_rfl)) (by kernel_rfl) ?_
    refine W.adv 5 ?_
    exact W.fin (x := .ret) (by kernel_rfl) (Ans.of (d := (.tuple [(.agg [.bool c20_0, .ints .u64 c20_1, .ints .u64 c20_2]), .int .i64 0])) (d' := (.tuple [(.agg [.bool c20_0, .ints .u64 c20_1, .ints .u64 c20_2]), .int .i64 0])) (e' := (.tuple [(.agg [.bool c20_0, .ints .u64 c20_1, .ints .u64 c20_2]), .int .i64 0])) (by kernel_rfl) (by kernel_rfl) (by kernel_rfl) (by rw [H.1, H.2.1, H.2.2.1, H.2.2.2]))
theorem fold_best_v0_go {a1 : List T_api_Rat} {zt0_0 : Bool} {zt0_1 : List Int} {zt0_2 : List Int} {zt1 : Int} (H : (((a1.length : Int) = 0 ∧ (zt0_0 = false ∧ zt0_1 = [] ∧ zt0_2 = [] ∧ zt1 = 9)) ∨ (¬ (a1.length : Int) = 0 ∧ (0 < (a1.length : Int) ∧ (∃ e3 : Bool, (∃ e4 : List Int, (∃ e5 : List Int, (a1.getD 0 (false, [], []) = (e3, e4, e5) ∧ (1 ≤ (a1.length : Int) ∧ (fold_best_v0_l0 (a1.drop 1) ((a1.drop 1).length : Int) 0 false e3 e4 e5 zt0_0 zt0_1 zt0_2 zt1)))))))))) : fold_best_v0_R a1 zt0_0 zt0_1 zt0_2 zt1 := by
  refine W.ic (zs := [.fn 50 [] [], (.list 3 (a1.map E_api_Rat))]) Tryz.func49 (by kernel_rfl) (by kernel_rfl) (by kernel_rfl) (by kernel_rfl) ?_
  refine W.adv 10 ?_
  refine W.opS (OpIs.ln (n := (a1.map E_api_Rat).length) (m := a1.length) (by kernel_rfl) (by rw [List.length_map])) ?_
  refine W.adv 3 ?_
  rcases H with ⟨h1, H⟩ | ⟨h1, H⟩
  · refine W.cond true (w := (decide ((a1.length : Int) = 0))) (by kernel_rfl) (decide_eq_true h1) ?_
    refine W.adv 9 ?_
    exact W.fin (x := .ret) (by kernel_rfl) (Ans.of (d := (.tuple [(.agg [.bool false, .nilS, .nilS]), .int .i64 9])) (d' := (.tuple [(.agg [.bool false, .nilS, .nilS]), .int .i64 9])) (e' := (.tuple [(.agg [.bool false, .ints .u64 [], .ints .u64 []]), .int .i64 9])) (by kernel_rfl) (by kernel_rfl) (by kernel_rfl) (by rw [H.1, H.2.1, H.2.2.1, H.2.2.2]))
  · refine W.cond false (w := (decide ((a1.length : Int) = 0))) (by kernel_rfl) (decide_eq_false h1) ?_
    refine W.adv 5 ?_
    obtain ⟨h2, H⟩ := H
    obtain ⟨e3, e4, e5, he6, H⟩ := H
    refine W.opS (OpIs.ixE (enc := E_api_Rat) (n := 3) (k' := .i64) (L := a1) (i := 0) (d0 := (false, [], [])) (x := (e3, e4, e5)) (by kernel_rfl) (by decide) h2 he6) ?_
    refine W.adv 9 ?_
    obtain ⟨h7, H⟩ := H
    refine W.opS (OpIs.slE_lo (enc := E_api_Rat) (n := 3) (k' := .i64) (L := a1) (i := 1) (by kernel_rfl) (by decide) h7) ?_
    refine W.opS (OpIs.ln (n := ((a1.drop 1).map E_api_Rat).length) (m := (a1.drop 1).length) (by kernel_rfl) (by rw [List.length_map])) ?_
    refine W.adv 4 ?_
    exact W.to_loop (P := fold_best_v0_l0_s (a1.drop 1) ((a1.drop 1).length : Int) 0 false e3 e4 e5) (H ) (by kernel_rfl)
/-! ### trivium/fold.best -/
noncomputable def fold_best_v1_l0_s (x17 : List T_api_Rat) (x18 : Int) (x19 : Int) (r4_0_0 : Bool) (r6_0_0 : Bool) (r6_0_1 : List Int) (r6_0_2 : List Int) (j : Nat → D) (jb : Nat → Blk) (vs : Nat → Nat) : Cf := cfAt Tryz.f49 [1, 1, 1, 0, 1, 0] ⟨[.fn 51 [] [], j 1, j 2, j 3, .pref 4 1 0 0, j 5, .pref 6 1 0 0, j 7, j 8, j 9, j 10, j 11, j 12, j 13, j 14, j 15, j 16, (.list 3 (x17.map E_api_Rat)), .int .i64 x18, .int .i64 x19, j 20, j 21, j 22, j 23, j 24, j 25, j 26, j 27, j 28, j 29, j 30, j 31], [jb 0, jb 1, jb 2, jb 3, ⟨1, false, .rows 3 [(.agg [.bool r4_0_0, .nilS, .nilS])]⟩, jb 5, ⟨1, false, .rows 3 [(.agg [.bool r6_0_0, .ints .u64 r6_0_1, .ints .u64 r6_0_2])]⟩, jb 7, jb 8, jb 9, jb 10, jb 11, jb 12, jb 13, jb 14, jb 15, jb 16, jb 17, jb 18, jb 19, jb 20, jb 21, jb 22, jb 23, jb 24, jb 25, jb 26, jb 27, jb 28, jb 29, jb 30, jb 31]⟩
def fold_best_v1_l0 (x17 : List T_api_Rat) (x18 : Int) (x19 : Int) (r4_0_0 : Bool) (r6_0_0 : Bool) (r6_0_1 : List Int) (r6_0_2 : List Int) (zt0_0 : Bool) (zt0_1 : List Int) (zt0_2 : List Int) (zt1 : Int) : Prop := ∀ j jb vs, W C F 49 0 (fold_best_v1_l0_s x17 x18 x19 r4_0_0 r6_0_0 r6_0_1 r6_0_2  j jb vs) (Ans C Tryz.f49 (.tuple [(.agg [.bool zt0_0, .ints .u64 zt0_1, .ints .u64 zt0_2]), .int .i64 zt1]))
theorem fold_best_v1_l0_go {x17 : List T_api_Rat} {x18 : Int} {x19 : Int} {r4_0_0 : Bool} {r6_0_0 : Bool} {r6_0_1 : List Int} {r6_0_2 : List Int} {zt0_0 : Bool} {zt0_1 : List Int} {zt0_2 : List Int} {zt1 : Int} (H : ((x19 < x18 ∧ (0 ≤ x19 ∧ (x19 < (x17.length : Int) ∧ (∃ e11 : Bool, (∃ e12 : List Int, (∃ e13 : List Int, (x17.getD (x19).toNat (false, [], []) = (e11, e12, e13) ∧ (∃ c15 : Bool, (fold_Greatest_1_R e11 e12 e13 r6_0_0 r6_0_1 r6_0_2 c15 ∧ ((c15 = true ∧ (fold_best_v1_l0 x17 x18 (wi (x19 + 1)) r4_0_0 e11 e12 e13 zt0_0 zt0_1 zt0_2 zt1)) ∨ (¬ c15 = true ∧ (fold_best_v1_l0 x17 x18 (wi (x19 + 1)) r4_0_0 r6_0_0 r6_0_1 r6_0_2 zt0_0 zt0_1 zt0_2 zt1)))))))))))) ∨ (¬ x19 < x18 ∧ (∃ c18_0 : Bool, (∃ c18_1 : List Int, (∃ c18_2 : List Int, (rat_Neg_R r6_0_0 r6_0_1 r6_0_2 c18_0 c18_1 c18_2 ∧ (∃ c20_0 : Bool, (∃ c20_1 : List Int, (∃ c20_2 : List Int, (rat_Neg_R c18_0 c18_1 c18_2 c20_0 c20_1 c20_2 ∧ (zt0_0 = c20_0 ∧ zt0_1 = c20_1 ∧ zt0_2 = c20_2 ∧ zt1 = 0)))))))))))) : fold_best_v1_l0 x17 x18 x19 r4_0_0 r6_0_0 r6_0_1 r6_0_2 zt0_0 zt0_1 zt0_2 zt1 := by
  intro j jb vs
  refine W.adv 1 ?_
  refine W.adv 6 ?_
  rcases H with ⟨h8, H⟩ | ⟨h8, H⟩
  · refine W.cond true (w := (decide (x19 < x18))) (by kernel_rfl) (decide_eq_true h8) ?_
    refine W.adv 6 ?_
    obtain ⟨h9, h10, H⟩ := H
    obtain ⟨e11, e12, e13, he14, H⟩ := H
    refine W.opS (OpIs.ixE (enc := E_api_Rat) (n := 3) (k' := .i64) (L := x17) (i := x19) (d0 := (false, [], [])) (x := (e11, e12, e13)) (by kernel_rfl) h9 h10 he14) ?_
    refine W.adv 2 ?_
    refine W.opH (OpIs.stV (b := 8) (v := ((jb 8).ver + 1)) (i := 0) (off := 0) (w := ((jb 8).ver + 1)) (n := 3) (s := 3) (xs := [(.agg [.bool false, .nilS, .nilS])]) (ys := [(.agg [.bool e11, .ints .u64 e12, .ints .u64 e13])]) (d := (.agg [.bool false, .nilS, .nilS])) (y := (.agg [.bool e11, .ints .u64 e12, .ints .u64 e13])) (by kernel_rfl) rfl (by kernel_rfl) (by kernel_rfl) (Nat.le_of_ble_eq_true (by kernel_rfl)) (by kernel_rfl) (by kernel_rfl)) ?_
    refine W.adv 5 ?_
    refine W.opS (OpIs.ldV (b := 8) (v := ((jb 8).ver + 1)) (i := 0) (off := 0) (w := ((jb 8).ver + 1)) (n := 3) (s := 3) (fz := false) (a := true) (xs := [(.agg [.bool e11, .ints .u64 e12, .ints .u64 e13])]) (r := (.agg [.bool e11, .ints .u64 e12, .ints .u64 e13])) (by kernel_rfl) rfl (by kernel_rfl)) ?_
    refine W.adv 1 ?_
    obtain ⟨c15, hc16, H⟩ := H
    refine W.callR (g := 51) (ds := [(.agg [.bool e11, .ints .u64 e12, .ints .u64 e13]), (.agg [.bool r6_0_0, .ints .u64 r6_0_1, .ints .u64 r6_0_2])]) (es := [(.agg [.bool e11, .ints .u64 e12, .ints .u64 e13]), (.agg [.bool r6_0_0, .ints .u64 r6_0_1, .ints .u64 r6_0_2])]) (r := (.bool c15)) (by kernel_rfl) (by kernel_rfl) (Ic.args hc16 (by kernel_rfl)) (by kernel_rfl) ?_
    refine W.adv 2 ?_
    rcases H with ⟨h17, H⟩ | ⟨h17, H⟩
    · refine W.cond true (w := c15) (by kernel_rfl) h17 ?_
      refine W.adv 1 ?_
      refine W.opS (OpIs.ldV (b := 8) (v := ((jb 8).ver + 1)) (i := 0) (off := 0) (w := ((jb 8).ver + 1)) (n := 3) (s := 3) (fz := false) (a := true) (xs := [(.agg [.bool e11, .ints .u64 e12, .ints .u64 e13])]) (r := (.agg [.bool e11, .ints .u64 e12, .ints .u64 e13])) (by kernel_rfl) rfl (by kernel_rfl)) ?_
      refine W.adv 9 ?_
      exact W.to_loop (P := fold_best_v1_l0_s x17 x18 (wi (x19 + 1)) r4_0_0 e11 e12 e13) (H ) (by kernel_rfl)
    · refine W.cond false (w := c15) (by kernel_rfl) (bfalse h17) ?_
      refine W.adv 8 ?_
      exact W.to_loop (P := fold_best_v1_l0_s x17 x18 (wi (x19 + 1)) r4_0_0 r6_0_0 r6_0_1 r6_0_2) (H ) (by kernel_rfl)
  · refine W.cond false (w := (decide (x19 < x18))) (by kernel_rfl) (decide_eq_false h8) ?_
    refine W.adv 8 ?_
    obtain ⟨c18_0, c18_1, c18_2, hc19, H⟩ := H
    refine W.callR (g := 77) (ds := [(.agg [.bool r6_0_0, .ints .u64 r6_0_1, .ints .u64 r6_0_2])]) (es := [(.agg [.bool r6_0_0, .ints .u64 r6_0_1, .ints .u64 r6_0_2])]) (r := (.agg [.bool c18_0, .ints .u64 c18_1, .ints .u64 c18_2])) (by kernel_rfl) (by kernel_rfl) (Ic.args hc19 (by kernel_rfl)) (by kernel_rfl) ?_
    obtain ⟨c20_0, c20_1, c20_2, hc21, H⟩ := H
    refine W.callR (g := 77) (ds := [(.agg [.bool c18_0, .ints .u64 c18_1, .ints .u64 c18_2])]) (es := [(.agg [.bool c18_0, .ints .u64 c18_1, .ints .u64 c18_2])]) (r := (.agg [.bool c20_0, .ints .u64 c20_1, .ints .u64 c20_2])) (by kernel_rfl) (by kernel_rfl) (Ic.args hc21 (by kernel_rfl)) (by kernel_rfl) ?_
    refine W.adv 5 ?_
    exact W.fin (x := .ret) (by kernel_rfl) (Ans.of (d := (.tuple [(.agg [.bool c20_0, .ints .u64 c20_1, .ints .u64 c20_2]), .int .i64 0])) (d' := (.tuple [(.agg [.bool c20_0, .ints .u64 c20_1, .ints .u64 c20_2]), .int .i64 0])) (e' := (.tuple [(.agg [.bool c20_0, .ints .u64 c20_1, .ints .u64 c20_2]), .int .i64 0])) (by kernel_rfl) (by kernel_rfl) (by kernel_rfl) (by rw [H.1, H.2.1, H.2.2.1, H.2.2.2]))
theorem fold_best_v1_go {a1 : List T_api_Rat} {zt0_0 : Bool} {zt0_1 : List Int} {zt0_2 : List Int} {zt1 : Int} (H : (((a1.length : Int) = 0 ∧ (zt0_0 = false ∧ zt0_1 = [] ∧ zt0_2 = [] ∧ zt1 = 9)) ∨ (¬ (a1.length : Int) = 0 ∧ (0 < (a1.length : Int) ∧ (∃ e3 : Bool, (∃ e4 : List Int, (∃ e5 : List Int, (a1.getD 0 (false, [], []) = (e3, e4, e5) ∧ (1 ≤ (a1.length : Int) ∧ (fold_best_v1_l0 (a1.drop 1) ((a1.drop 1).length : Int) 0 false e3 e4 e5 zt0_0 zt0_1 zt0_2 zt1)))))))))) : fold_best_v1_R a1 zt0_0 zt0_1 zt0_2 zt1 := by
  refine W.ic (zs := [.fn 51 [] [], (.list 3 (a1.map E_api_Rat))]) Tryz.func49 (by kernel_rfl) (by kernel_rfl) (by kernel_rfl) (by kernel_rfl) ?_
  refine W.adv 10 ?_
  refine W.opS (OpIs.ln (n := (a1.map E_api_Rat).length) (m := a1.length) (by kernel_rfl) (by rw [List.length_map])) ?_
  refine W.adv 3 ?_
  rcases H with ⟨h1, H⟩ | ⟨h1, H⟩
  · refine W.cond true (w := (decide ((a1.length : Int) = 0))) (by kernel_rfl) (decide_eq_true h1) ?_
    refine W.adv 9 ?_
    exact W.fin (x := .ret) (by kernel_rfl) (Ans.of (d := (.tuple [(.agg [.bool false, .nilS, .nilS]), .int .i64 9])) (d' := (.tuple [(.agg [.bool false, .nilS, .nilS]), .int .i64 9])) (e' := (.tuple [(.agg [.bool false, .ints .u64 [], .ints .u64 []]), .int .i64 9])) (by kernel_rfl) (by kernel_rfl) (by kernel_rfl) (by rw [H.1, H.2.1, H.2.2.1, H.2.2.2]))
  · refine W.cond false (w := (decide ((a1.length : Int) = 0))) (by kernel_rfl) (decide_eq_false h1) ?_
    refine W.adv 5 ?_
    obtain ⟨h2, H⟩ := H
    obtain ⟨e3, e4, e5, he6, H⟩ := H
    refine W.opS (OpIs.ixE (enc := E_api_Rat) (n := 3) (k' := .i64) (L := a1) (i := 0) (d0 := (false, [], [])) (x := (e3, e4, e5)) (by kernel_rfl) (by decide) h2 he6) ?_
    refine W.adv 9 ?_
    obtain ⟨h7, H⟩ := H
    refine W.opS (OpIs.slE_lo (enc := E_api_Rat) (n := 3) (k' := .i64) (L := a1) (i := 1) (by kernel_rfl) (by decide) h7) ?_
    refine W.opS (OpIs.ln (n := ((a1.drop 1).map E_api_Rat).length) (m := (a1.drop 1).length) (by kernel_rfl) (by rw [List.length_map])) ?_
    refine W.adv 4 ?_
    exact W.to_loop (P := fold_best_v1_l0_s (a1.drop 1) ((a1.drop 1).length : Int) 0 false e3 e4 e5) (H ) (by kernel_rfl)
/-! ### trivium/fold.Sum, on its caller's rows -/
noncomputable def fold_Sum_S_l0_s (cb : Nat → Blk) (ver : Nat) (x8 : Int) (x9 : Int) (r27 : List T_api_Rat) (r55_0_0 : Bool) (r56_0_0 : Bool) (r56_0_1 : List Int) (r56_0_2 : List Int) (n27 : Nat) (j : Nat → D) (jb : Nat → Blk) (vs : Nat → Nat) : Cf := cfAt Tryz.f52 [1, 1, 0, 1, 0] ⟨[j 0, j 1, .pref 55 1 0 0, .pref 56 1 0 0, j 4, j 5, j 6, .sref 27 ver 3 0 n27, .int .i64 x8, .int .i64 x9, j 10, j 11, j 12, j 13, j 14, j 15, j 16, j 17], [cb 0, cb 1, cb 2, cb 3, cb 4, cb 5, cb 6, cb 7, cb 8, cb 9, cb 10, cb 11, cb 12, cb 13, cb 14, cb 15, cb 16, cb 17, cb 18, cb 19, cb 20, cb 21, cb 22, cb 23, cb 24, cb 25, cb 26, ⟨ver, false, .rows 3 (r27.map E_api_Rat)⟩, cb 28, cb 29, cb 30, cb 31, cb 32, cb 33, cb 34, cb 35, cb 36, cb 37, cb 38, cb 39, cb 40, cb 41, cb 42, cb 43, cb 44, cb 45, cb 46, cb 47, cb 48, cb 49, cb 50, cb 51, cb 52, noBlk, noBlk, ⟨1, false, .rows 3 [(.agg [.bool r55_0_0, .nilS, .nilS])]⟩, ⟨1, false, .rows 3 [(.agg [.bool r56_0_0, .ints .u64 r56_0_1, .ints .u64 r56_0_2])]⟩, noBlk, noBlk, noBlk, noBlk, noBlk, noBlk, noBlk, noBlk, noBlk, noBlk, noBlk, noBlk, noBlk, noBlk]⟩
def fold_Sum_S_l0 (cb : Nat → Blk) (ver : Nat) (x8 : Int) (x9 : Int) (r27 : List T_api_Rat) (r55_0_0 : Bool) (r56_0_0 : Bool) (r56_0_1 : List Int) (r56_0_2 : List Int) (z_0 : Bool) (z_1 : List Int) (z_2 : List Int) (ys : List T_api_Rat) : Prop := ∀ n27, n27 = r27.length → ∀ j jb vs, W C F 52 53 (fold_Sum_S_l0_s cb ver x8 x9 r27 r55_0_0 r56_0_0 r56_0_1 r56_0_2 n27 j jb vs) (SAnsK C Tryz.f52 53 (.agg [.bool z_0, .ints .u64 z_1, .ints .u64 z_2]) (fun eb => [cb 0, cb 1, cb 2, cb 3, cb 4, cb 5, cb 6, cb 7, cb 8, cb 9, cb 10, cb 11, cb 12, cb 13, cb 14, cb 15, cb 16, cb 17, cb 18, cb 19, cb 20, cb 21, cb 22, cb 23, cb 24, cb 25, cb 26, ⟨ver, false, .rows 3 (ys.map E_api_Rat)⟩, cb 28, cb 29, cb 30, cb 31, cb 32, cb 33, cb 34, cb 35, cb 36, cb 37, cb 38, cb 39, cb 40, cb 41, cb 42, cb 43, cb 44, cb 45, cb 46, cb 47, cb 48, cb 49, cb 50, cb 51, cb 52, eb 0, eb 1, eb 2, eb 3, eb 4, eb 5, eb 6, eb 7, eb 8, eb 9, eb 10, eb 11, eb 12, eb 13, eb 14, eb 15, eb 16, eb 17]))
noncomputable def fold_Sum_S_l1_s (cb : Nat → Blk) (ver : Nat) (x8 : Int) (x9 : Int) (r27 : List T_api_Rat) (r55_0_0 : Bool) (r56_0_0 : Bool) (r56_0_1 : List Int) (r56_0_2 : List Int) (n27 : Nat) (j : Nat → D) (jb : Nat → Blk) (vs : Nat → Nat) : Cf := cfAt Tryz.f52 [1, 1, 0, 1, 0] ⟨[j 0, j 1, .pref 55 1 0 0, .pref 56 1 0 0, j 4, j 5, j 6, .sref 27 ver 3 0 n27, .int .i64 x8, .int .i64 x9, j 10, j 11, j 12, j 13, j 14, j 15, j 16, j 17], [cb 0, cb 1, cb 2, cb 3, cb 4, cb 5, cb 6, cb 7, cb 8, cb 9, cb 10, cb 11, cb 12, cb 13, cb 14, cb 15, cb 16, cb 17, cb 18, cb 19, cb 20, cb 21, cb 22, cb 23, cb 24, cb 25, cb 26, ⟨ver, false, .rows 3 (r27.map E_api_Rat)⟩, cb 28, cb 29, cb 30, cb 31, cb 32, cb 33, cb 34, cb 35, cb 36, cb 37, cb 38, cb 39, cb 40, cb 41, cb 42, cb 43, cb 44, cb 45, cb 46, cb 47, cb 48, cb 49, cb 50, cb 51, cb 52, noBlk, noBlk, ⟨1, false, .rows 3 [(.agg [.bool r55_0_0, .nilS, .nilS])]⟩, ⟨1, false, .rows 3 [(.agg [.bool r56_0_0, .ints .u64 r56_0_1, .ints .u64 r56_0_2])]⟩, noBlk, jb 58, noBlk, noBlk, noBlk, noBlk, noBlk, noBlk, noBlk, noBlk, noBlk, noBlk, noBlk, noBlk]⟩
def fold_Sum_S_l1 (cb : Nat → Blk) (ver : Nat) (x8 : Int) (x9 : Int) (r27 : List T_api_Rat) (r55_0_0 : Bool) (r56_0_0 : Bool) (r56_0_1 : List Int) (r56_0_2 : List Int) (z_0 : Bool) (z_1 : List Int) (z_2 : List Int) (ys : List T_api_Rat) : Prop := ∀ n27, n27 = r27.length → ∀ j jb vs, W C F 52 53 (fold_Sum_S_l1_s cb ver x8 x9 r27 r55_0_0 r56_0_0 r56_0_1 r56_0_2 n27 j jb vs) (SAnsK C Tryz.f52 53 (.agg [.bool z_0, .ints .u64 z_1, .ints .u64 z_2]) (fun eb => [cb 0, cb 1, cb 2, cb 3, cb 4, cb 5, cb 6, cb 7, cb 8, cb 9, cb 10, cb 11, cb 12, cb 13, cb 14, cb 15, cb 16, cb 17, cb 18, cb 19, cb 20, cb 21, cb 22, cb 23, cb 24, cb 25, cb 26, ⟨ver, false, .rows 3 (ys.map E_api_Rat)⟩, cb 28, cb 29, cb 30, cb 31, cb 32, cb 33, cb 34, cb 35, cb 36, cb 37, cb 38, cb 39, cb 40, cb 41, cb 42, cb 43, cb 44, cb 45, cb 46, cb 47, cb 48, cb 49, cb 50, cb 51, cb 52, eb 0, eb 1, eb 2, eb 3, eb 4, eb 5, eb 6, eb 7, eb 8, eb 9, eb 10, eb 11, eb 12, eb 13, eb 14, eb 15, eb 16, eb 17]))
theorem fold_Sum_S_l0_go {cb : Nat → Blk} {ver : Nat} {x8 : Int} {x9 : Int} {r27 : List T_api_Rat} {r55_0_0 : Bool} {r56_0_0 : Bool} {r56_0_1 : List Int} {r56_0_2 : List Int} {z_0 : Bool} {z_1 : List Int} {z_2 : List Int} {ys : List T_api_Rat} (H : ((x9 < x8 ∧ (0 ≤ x9 ∧ (x9 < (r27.length : Int) ∧ (∃ e6 : Bool, (∃ e7 : List Int, (∃ e8 : List Int, (r27.getD (x9).toNat (false, [], []) = (e6, e7, e8) ∧ (∃ c10_0 : Bool, (∃ c10_1 : List Int, (∃ c10_2 : List Int, (rat_Add_R r56_0_0 r56_0_1 r56_0_2 e6 e7 e8 c10_0 c10_1 c10_2 ∧ (fold_Sum_S_l1 cb ver x8 (wi (x9 + 1)) r27 r55_0_0 c10_0 c10_1 c10_2 z_0 z_1 z_2 ys)))))))))))) ∨ (¬ x9 < x8 ∧ (z_0 = r56_0_0 ∧ z_1 = r56_0_1 ∧ z_2 = r56_0_2 ∧ ys = r27)))) : fold_Sum_S_l0 cb ver x8 x9 r27 r55_0_0 r56_0_0 r56_0_1 r56_0_2 z_0 z_1 z_2 ys := by
  intro n27 ln_27 j jb vs
  refine W.adv 1 ?_
  refine W.adv 6 ?_
  rcases H with ⟨h3, H⟩ | ⟨h3, H⟩
  · refine W.cond true (w := (decide (x9 < x8))) (by kernel_rfl) (decide_eq_true h3) ?_
    refine W.adv 6 ?_
    obtain ⟨h4, h5, H⟩ := H
    refine W.opS (OpIs.ixR (k' := .i64) (b := 27) (v := ver) (sz := 3) (len := n27) (i := x9) (by kernel_rfl) h4 (by rw [ln_27]; exact h5)) ?_
    obtain ⟨e6, e7, e8, he9, H⟩ := H
    refine W.opS (OpIs.ldE (enc := E_api_Rat) (b := 27) (v := ver) (i := (x9).toNat) (off := 0) (w := ver) (n := 3) (s := 3) (fz := false) (a := true) (L := r27) (d0 := (false, [], [])) (x := (e6, e7, e8)) (r := (.agg [.bool e6, .ints .u64 e7, .ints .u64 e8])) (by kernel_rfl) rfl (by omega) he9 (by kernel_rfl)) ?_
    refine W.adv 7 ?_
    obtain ⟨c10_0, c10_1, c10_2, hc11, H⟩ := H
    refine W.callR (g := 20) (ds := [(.agg [.bool r56_0_0, .ints .u64 r56_0_1, .ints .u64 r56_0_2]), (.agg [.bool e6, .ints .u64 e7, .ints .u64 e8])]) (es := [(.agg [.bool r56_0_0, .ints .u64 r56_0_1, .ints .u64 r56_0_2]), (.agg [.bool e6, .ints .u64 e7, .ints .u64 e8])]) (r := (.agg [.bool c10_0, .ints .u64 c10_1, .ints .u64 c10_2])) (by kernel_rfl) (by kernel_rfl) (Ic.args hc11 (by kernel_rfl)) (by kernel_rfl) ?_
    refine W.adv 9 ?_
    exact W.to_loop (P := fold_Sum_S_l1_s cb ver x8 (wi (x9 + 1)) r27 r55_0_0 c10_0 c10_1 c10_2 n27) (H _ ln_27) (by kernel_rfl)
  · refine W.cond false (w := (decide (x9 < x8))) (by kernel_rfl) (decide_eq_false h3) ?_
    refine W.adv 12 ?_
    exact W.fin (x := .ret) (by kernel_rfl) (SAnsK.of (b := 55) (v := 0) (fz := false) (y := .rows 3 [(.agg [.bool r56_0_0, .ints .u64 r56_0_1, .ints .u64 r56_0_2])]) (d0 := (.agg [.bool r56_0_0, .ints .u64 r56_0_1, .ints .u64 r56_0_2])) (h0 := (fun eb => [cb 0, cb 1, cb 2, cb 3, cb 4, cb 5, cb 6, cb 7, cb 8, cb 9, cb 10, cb 11, cb 12, cb 13, cb 14, cb 15, cb 16, cb 17, cb 18, cb 19, cb 20, cb 21, cb 22, cb 23, cb 24, cb 25, cb 26, ⟨ver, false, .rows 3 (r27.map E_api_Rat)⟩, cb 28, cb 29, cb 30, cb 31, cb 32, cb 33, cb 34, cb 35, cb 36, cb 37, cb 38, cb 39, cb 40, cb 41, cb 42, cb 43, cb 44, cb 45, cb 46, cb 47, cb 48, cb 49, cb 50, cb 51, cb 52, eb 0, eb 1, eb 2, eb 3, eb 4, eb 5, eb 6, eb 7, eb 8, eb 9, eb 10, eb 11, eb 12, eb 13, eb 14, eb 15, eb 16, eb 17])) (by kernel_rfl) (by rw [H.1, H.2.1, H.2.2.1]) (by kernel_rfl) (by kernel_rfl) (by kernel_rfl) (by rw [H.2.2.2]))
theorem fold_Sum_S_l1_go {cb : Nat → Blk} {ver : Nat} {x8 : Int} {x9 : Int} {r27 : List T_api_Rat} {r55_0_0 : Bool} {r56_0_0 : Bool} {r56_0_1 : List Int} {r56_0_2 : List Int} {z_0 : Bool} {z_1 : List Int} {z_2 : List Int} {ys : List T_api_Rat} (H : ((x9 < x8 ∧ (0 ≤ x9 ∧ (x9 < (r27.length : Int) ∧ (∃ e15 : Bool, (∃ e16 : List Int, (∃ e17 : List Int, (r27.getD (x9).toNat (false, [], []) = (e15, e16, e17) ∧ (∃ c19_0 : Bool, (∃ c19_1 : List Int, (∃ c19_2 : List Int, (rat_Add_R r56_0_0 r56_0_1 r56_0_2 e15 e16 e17 c19_0 c19_1 c19_2 ∧ (fold_Sum_S_l1 cb ver x8 (wi (x9 + 1)) r27 r55_0_0 c19_0 c19_1 c19_2 z_0 z_1 z_2 ys)))))))))))) ∨ (¬ x9 < x8 ∧ (z_0 = r56_0_0 ∧ z_1 = r56_0_1 ∧ z_2 = r56_0_2 ∧ ys = r27)))) : fold_Sum_S_l1 cb ver x8 x9 r27 r55_0_0 r56_0_0 r56_0_1 r56_0_2 z_0 z_1 z_2 ys := by
  intro n27 ln_27 j jb vs
  refine W.adv 1 ?_
  refine W.adv 6 ?_
  rcases H with ⟨h12, H⟩ | ⟨h12, H⟩
  · refine W.cond true (w := (decide (x9 < x8))) (by kernel_rfl) (decide_eq_true h12) ?_
    refine W.adv 6 ?_
    obtain ⟨h13, h14, H⟩ := H
    refine W.opS (OpIs.ixR (k' := .i64) (b := 27) (v := ver) (sz := 3) (len := n27) (i := x9) (by kernel_rfl) h13 (by rw [ln_27]; exact h14)) ?_
    obtain ⟨e15, e16, e17, he18, H⟩ := H
    refine W.opS (OpIs.ldE (enc := E_api_Rat) (b := 27) (v := ver) (i := (x9).toNat) (off := 0) (w := ver) (n := 3) (s := 3) (fz := false) (a := true) (L := r27) (d0 := (false, [], [])) (x := (e15, e16, e17)) (r := (.agg [.bool e15, .ints .u64 e16, .ints .u64 e17])) (by kernel_rfl) rfl (by omega) he18 (by kernel_rfl)) ?_
    refine W.adv 1 ?_
    refine W.opH (OpIs.stV (b := 58) (v := ((jb 58).ver + 1)) (i := 0) (off := 0) (w := ((jb 58).ver + 1)) (n := 3) (s := 3) (xs := [(.agg [.bool false, .nilS, .nilS])]) (ys := [(.agg [.bool e15, .ints .u64 e16, .ints .u64 e17])]) (d := (.agg [.bool false, .nilS, .nilS])) (y := (.agg [.bool e15, .ints .u64 e16, .ints .u64 e17])) (by kernel_rfl) rfl (by kernel_rfl) (by kernel_rfl) (Nat.le_of_ble_eq_true (by kernel_rfl)) (by kernel_rfl) (by kernel_rfl)) ?_
    refine W.adv 4 ?_
    refine W.opS (OpIs.ldV (b := 58) (v := ((jb 58).ver + 1)) (i := 0) (off := 0) (w := ((jb 58).ver + 1)) (n := 3) (s := 3) (fz := false) (a := true) (xs := [(.agg [.bool e15, .ints .u64 e16, .ints .u64 e17])]) (r := (.agg [.bool e15, .ints .u64 e16, .ints .u64 e17])) (by kernel_rfl) rfl (by kernel_rfl)) ?_
    obtain ⟨c19_0, c19_1, c19_2, hc20, H⟩ := H
    refine W.callR (g := 20) (ds := [(.agg [.bool r56_0_0, .ints .u64 r56_0_1, .ints .u64 r56_0_2]), (.agg [.bool e15, .ints .u64 e16, .ints .u64 e17])]) (es := [(.agg [.bool r56_0_0, .ints .u64 r56_0_1, .ints .u64 r56_0_2]), (.agg [.bool e15, .ints .u64 e16, .ints .u64 e17])]) (r := (.agg [.bool c19_0, .ints .u64 c19_1, .ints .u64 c19_2])) (by kernel_rfl) (by kernel_rfl) (Ic.args hc20 (by kernel_rfl)) (by kernel_rfl) ?_
    refine W.adv 9 ?_
    exact W.to_loop (P := fold_Sum_S_l1_s cb ver x8 (wi (x9 + 1)) r27 r55_0_0 c19_0 c19_1 c19_2 n27) (H _ ln_27) (by kernel_rfl)
  · refine W.cond false (w := (decide (x9 < x8))) (by kernel_rfl) (decide_eq_false h12) ?_
    refine W.adv 12 ?_
    exact W.fin (x := .ret) (by kernel_rfl) (SAnsK.of (b := 55) (v := 0) (fz := false) (y := .rows 3 [(.agg [.bool r56_0_0, .ints .u64 r56_0_1, .ints .u64 r56_0_2])]) (d0 := (.agg [.bool r56_0_0, .ints .u64 r56_0_1, .ints .u64 r56_0_2])) (h0 := (fun eb => [cb 0, cb 1, cb 2, cb 3, cb 4, cb 5, cb 6, cb 7, cb 8, cb 9, cb 10, cb 11, cb 12, cb 13, cb 14, cb 15, cb 16, cb 17, cb 18, cb 19, cb 20, cb 21, cb 22, cb 23, cb 24, cb 25, cb 26, ⟨ver, false, .rows 3 (r27.map E_api_Rat)⟩, cb 28, cb 29, cb 30, cb 31, cb 32, cb 33, cb 34, cb 35, cb 36, cb 37, cb 38, cb 39, cb 40, cb 41, cb 42, cb 43, cb 44, cb 45, cb 46, cb 47, cb 48, cb 49, cb 50, cb 51, cb 52, eb 0, eb 1, eb 2, eb 3, eb 4, eb 5, eb 6, eb 7, eb 8, eb 9, eb 10, eb 11, eb 12, eb 13, eb 14, eb 15, eb 16, eb 17])) (by kernel_rfl) (by rw [H.1, H.2.1, H.2.2.1]) (by kernel_rfl) (by kernel_rfl) (by kernel_rfl) (by rw [H.2.2.2]))
theorem fold_Sum_S_go {xs : List T_api_Rat} {z_0 : Bool} {z_1 : List Int} {z_2 : List Int} {ys : List T_api_Rat} (H : ∀ (cb : Nat → Blk) (ver : Nat), (∃ c1_0 : Bool, (∃ c1_1 : List Int, (∃ c1_2 : List Int, (rat_Of_R 0 c1_0 c1_1 c1_2 ∧ (fold_Sum_S_l0 cb ver (xs.length : Int) 0 xs false c1_0 c1_1 c1_2 z_0 z_1 z_2 ys)))))) : fold_Sum_S_R xs z_0 z_1 z_2 ys := by
  intro cb ver n ln
  replace H := H cb ver
  refine W.scK (h' := (fun eb => [cb 0, cb 1, cb 2, cb 3, cb 4, cb 5, cb 6, cb 7, cb 8, cb 9, cb 10, cb 11, cb 12, cb 13, cb 14, cb 15, cb 16, cb 17, cb 18, cb 19, cb 20, cb 21, cb 22, cb 23, cb 24, cb 25, cb 26, ⟨ver, false, .rows 3 (ys.map E_api_Rat)⟩, cb 28, cb 29, cb 30, cb 31, cb 32, cb 33, cb 34, cb 35, cb 36, cb 37, cb 38, cb 39, cb 40, cb 41, cb 42, cb 43, cb 44, cb 45, cb 46, cb 47, cb 48, cb 49, cb 50, cb 51, cb 52, eb 0, eb 1, eb 2, eb 3, eb 4, eb 5, eb 6, eb 7, eb 8, eb 9, eb 10, eb 11, eb 12, eb 13, eb 14, eb 15, eb 16, eb 17])) (n := 53) Tryz.func52 (by kernel_rfl) (by kernel_rfl) (by kernel_rfl) (by kernel_rfl) ?_
  refine W.adv 7 ?_
  obtain ⟨c1_0, c1_1, c1_2, hc2, H⟩ := H
  refine W.callR (g := 19) (ds := [.int .i64 0]) (es := [.int .i64 0]) (r := (.agg [.bool c1_0, .ints .u64 c1_1, .ints .u64 c1_2])) (by kernel_rfl) (by kernel_rfl) (Ic.args hc2 (by kernel_rfl)) (by kernel_rfl) ?_
  refine W.adv 8 ?_
  refine W.opS (OpIs.ln (n := n) (m := xs.length) (by kernel_rfl) ln) ?_
  refine W.adv 4 ?_
  exact W.to_loop (P := fold_Sum_S_l0_s cb ver (xs.length : Int) 0 xs false c1_0 c1_1 c1_2 n) (H _ ln) (by kernel_rfl)
end Go.Proofs.YtmdgdgfhgaeddaaGreatA
