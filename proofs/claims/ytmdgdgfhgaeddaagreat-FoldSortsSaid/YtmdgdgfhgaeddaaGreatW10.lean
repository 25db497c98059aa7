/- Walks through the functions: what makes each relation true. -/
import Derived.Test.YtmdgdgfhgaeddaaGreatW0
set_option linter.unusedVariables false
set_option maxRecDepth 100000
namespace Go.Proofs.YtmdgdgfhgaeddaaGreatA
open Go Go.Proofs
/-! ### trivium/fold.Sorted -/
theorem fold_Sorted_go {a0 : List T_api_Rat} {z : List T_api_Rat} (H : ((a0 = [] ∧ (slices_SortStableFunc___api_Rat_api_Rat__v0_R ([] : List T_api_Rat) ∧ (z = ([] : List T_api_Rat)))) ∨ (¬ a0 = [] ∧ (a0.length + 192) * (56 + 1) ≤ 70368744177664 ∧ (∃ y4 : List T_api_Rat, (y4.length = a0.length ∧ (slices_SortStableFunc___api_Rat_api_Rat__L1_R a0 y4 ∧ (z = y4))))))) : fold_Sorted_R a0 z := by
  refine W.ic (zs := [(.list 3 (a0.map E_api_Rat))]) Tryz.func5 (by kernel_rfl) (by kernel_rfl) (by kernel_rfl) (by kernel_rfl) ?_
  refine W.adv 8 ?_
  rcases H with ⟨h1, H⟩ | ⟨h1, hbh1, H⟩
  · refine W.adoptE (t := 5) (g := 16) (ds := [(.list 3 (a0.map E_api_Rat))]) (es := [(.list 3 (a0.map E_api_Rat))]) (by kernel_rfl) (by kernel_rfl) (by kernel_rfl) (rf_cons (by kernel_rfl) rf_nil) (slices_Clone___api_Rat_api_Rat__nil h1) ?_
    refine W.adv 6 ?_
    obtain ⟨hc3, H⟩ := H
    refine W.callT (g := 17) (ds := [(.list 3 (([] : List T_api_Rat).map E_api_Rat)), .fn 18 [] []]) (es := [(.list 3 (([] : List T_api_Rat).map E_api_Rat)), .fn 18 [] []]) (r := (.tuple [])) (by kernel_rfl) (by kernel_rfl) (by kernel_rfl) (Ic.args hc3 (by kernel_rfl)) ?_
    refine W.adv 9 ?_
    exact W.fin (x := .ret) (by kernel_rfl) (Ans.of (d := (.list 3 (([] : List T_api_Rat).map E_api_Rat))) (d' := (.list 3 (([] : List T_api_Rat).map E_api_Rat))) (e' := (.list 3 (([] : List T_api_Rat).map E_api_Rat))) (by kernel_rfl) (by kernel_rfl) (by kernel_rfl) (by rw [H]))
  · refine W.adoptE (t := 5) (g := 16) (ds := [(.list 3 (a0.map E_api_Rat))]) (es := [(.list 3 (a0.map E_api_Rat))]) (by kernel_rfl) (by kernel_rfl) (by kernel_rfl) (rf_cons (by kernel_rfl) rf_nil) (Ad.adopt (d := 5) (w := 1) (slices_Clone___api_Rat_api_Rat__ad h1 hbh1) (B := noBlk) (by kernel_rfl) (by kernel_rfl) (by kernel_rfl)) ?_
    refine W.adv 6 ?_
    obtain ⟨y4, hl7, hc5, H⟩ := H
    have ln8 : a0.length = y4.length := by rw [hl7] <;> exact rfl
    refine W.sharedL (g := 17) (ds := [.sref 5 1 3 0 a0.length, .fn 18 [] []]) (d := (.tuple [])) (P := (fun cb => [cb 0, cb 1, cb 2, cb 3, cb 4, ⟨1, false, .rows 3 (a0.map E_api_Rat)⟩, cb 6, cb 7, cb 8])) (P' := (fun cb => [cb 0, cb 1, cb 2, cb 3, cb 4, ⟨1, false, .rows 3 (y4.map E_api_Rat)⟩, cb 6, cb 7, cb 8])) (by kernel_rfl) (by kernel_rfl) (by kernel_rfl) (fun cb => hc5 cb _ _ rfl) (fun rl6 => ?_)
    refine W.adv 9 ?_
    exact W.fin (x := .ret) (by kernel_rfl) (Ans.of (d := (.sref 5 1 3 0 a0.length)) (d' := (.list 3 (y4.map E_api_Rat))) (e' := (.list 3 (y4.map E_api_Rat))) (by kernel_rfl) ((congrArg (fun h => reify h DEPTH (.sref 5 1 3 0 a0.length)) (tidy_ver (b := 5) (v := 0) (fz := false) (y := .rows 3 (y4.map E_api_Rat)) (by kernel_rfl))).trans (rf_fullE (enc := E_api_Rat) E_api_Rat_t (b := 5) (v := 1) (w := 1) (fz := false) (xs := y4) (by kernel_rfl) rfl ln8)) (by kernel_rfl) (by rw [H]))
/-! ### trivium/fold.Running -/
noncomputable def fold_Running_l0_s (x11 : List T_api_Rat) (x12 : Int) (x13 : Int) (r3_0_0 : Bool) (r3_0_1 : List Int) (r3_0_2 : List Int) (r10 : List T_api_Rat) (n10 : Nat) (j : Nat → D) (jb : Nat → Blk) (vs : Nat → Nat) : Cf := cfAt Tryz.f6 [1, 1, 1, 0, 1, 0] ⟨[j 0, j 1, j 2, .pref 3 1 0 0, .sref 10 1 3 0 n10, j 5, j 6, j 7, j 8, j 9, j 10, (.list 3 (x11.map E_api_Rat)), .int .i64 x12, .int .i64 x13, j 14, j 15, j 16, j 17, j 18, j 19, j 20, j 21, j 22, j 23, j 24, j 25, j 26], [jb 0, jb 1, jb 2, ⟨1, false, .rows 3 [(.agg [.bool r3_0_0, .ints .u64 r3_0_1, .ints .u64 r3_0_2])]⟩, jb 4, jb 5, jb 6, jb 7, jb 8, jb 9, ⟨1, false, .rows 3 (r10.map E_api_Rat)⟩, jb 11, jb 12, jb 13, jb 14, jb 15, jb 16, jb 17, jb 18, jb 19, jb 20, jb 21, jb 22, jb 23, jb 24, jb 25, jb 26]⟩
def fold_Running_l0 (x11 : List T_api_Rat) (x12 : Int) (x13 : Int) (r3_0_0 : Bool) (r3_0_1 : List Int) (r3_0_2 : List Int) (r10 : List T_api_Rat) (z : List T_api_Rat) : Prop := ∀ n10, n10 = r10.length → ∀ j jb vs, W C F 6 0 (fold_Running_l0_s x11 x12 x13 r3_0_0 r3_0_1 r3_0_2 r10 n10 j jb vs) (Ans C Tryz.f6 (.list 3 (z.map E_api_Rat)))
theorem fold_Running_l0_go {x11 : List T_api_Rat} {x12 : Int} {x13 : Int} {r3_0_0 : Bool} {r3_0_1 : List Int} {r3_0_2 : List Int} {r10 : List T_api_Rat} {z : List T_api_Rat} (H : ((x13 < x12 ∧ (0 ≤ x13 ∧ (x13 < (x11.length : Int) ∧ (∃ e11 : Bool, (∃ e12 : List Int, (∃ e13 : List Int, (x11.getD (x13).toNat (false, [], []) = (e11, e12, e13) ∧ (∃ c15_0 : Bool, (∃ c15_1 : List Int, (∃ c15_2 : List Int, (rat_Add_R r3_0_0 r3_0_1 r3_0_2 e11 e12 e13 c15_0 c15_1 c15_2 ∧ (x13 < (r10.length : Int) ∧ (∃ y18, y18 = r10.set (x13).toNat (c15_0, c15_1, c15_2) ∧ (fold_Running_l0 x11 x12 (wi (x13 + 1)) c15_0 c15_1 c15_2 y18 z)))))))))))))) ∨ (¬ x13 < x12 ∧ (z = r10)))) : fold_Running_l0 x11 x12 x13 r3_0_0 r3_0_1 r3_0_2 r10 z := by
  intro n10 ln_10 j jb vs
  refine W.adv 1 ?_
  refine W.adv 6 ?_
  rcases H with ⟨h8, H⟩ | ⟨h8, H⟩
  · refine W.cond true (w := (decide (x13 < x12))) (by kernel_rfl) (decide_eq_true h8) ?_
    refine W.adv 7 ?_
    obtain ⟨h9, h10, H⟩ := H
    obtain ⟨e11, e12, e13, he14, H⟩ := H
    refine W.opS (OpIs.ixE (enc := E_api_Rat) (n := 3) (k' := .i64) (L := x11) (i := x13) (d0 := (false, [], [])) (x := (e11, e12, e13)) (by kernel_rfl) h9 h10 he14) ?_
    refine W.adv 3 ?_
    refine W.opH (OpIs.stV (b := 6) (v := ((jb 6).ver + 1)) (i := 0) (off := 0) (w := ((jb 6).ver + 1)) (n := 3) (s := 3) (xs := [(.agg [.bool false, .nilS, .nilS])]) (ys := [(.agg [.bool e11, .ints .u64 e12, .ints .u64 e13])]) (d := (.agg [.bool false, .nilS, .nilS])) (y := (.agg [.bool e11, .ints .u64 e12, .ints .u64 e13])) (by kernel_rfl) rfl (by kernel_rfl) (by kernel_rfl) (Nat.le_of_ble_eq_true (by kernel_rfl)) (by kernel_rfl) (by kernel_rfl)) ?_
    refine W.adv 5 ?_
    refine W.opS (OpIs.ldV (b := 6) (v := ((jb 6).ver + 1)) (i := 0) (off := 0) (w := ((jb 6).ver + 1)) (n := 3) (s := 3) (fz := false) (a := true) (xs := [(.agg [.bool e11, .ints .u64 e12, .ints .u64 e13])]) (r := (.agg [.bool e11, .ints .u64 e12, .ints .u64 e13])) (by kernel_rfl) rfl (by kernel_rfl)) ?_
    obtain ⟨c15_0, c15_1, c15_2, hc16, H⟩ := H
    refine W.callR (g := 20) (ds := [(.agg [.bool r3_0_0, .ints .u64 r3_0_1, .ints .u64 r3_0_2]), (.agg [.bool e11, .ints .u64 e12, .ints .u64 e13])]) (es := [(.agg [.bool r3_0_0, .ints .u64 r3_0_1, .ints .u64 r3_0_2]), (.agg [.bool e11, .ints .u64 e12, .ints .u64 e13])]) (r := (.agg [.bool c15_0, .ints .u64 c15_1, .ints .u64 c15_2])) (by kernel_rfl) (by kernel_rfl) (Ic.args hc16 (by kernel_rfl)) (by kernel_rfl) ?_
    refine W.adv 7 ?_
    obtain ⟨h17, H⟩ := H
    refine W.opS (OpIs.ixR (k' := .i64) (b := 10) (v := 1) (sz := 3) (len := n10) (i := x13) (by kernel_rfl) h9 (by rw [ln_10]; exact h17)) ?_
    obtain ⟨y18, hy19, H⟩ := H
    have ln20 : n10 = y18.length := by rw [hy19, List.length_set]; exact ln_10
    refine W.opH (OpIs.stE (enc := E_api_Rat) (b := 10) (v := 1) (i := (x13).toNat) (off := 0) (w := 1) (n := 3) (s := 3) (L := r10) (d0 := (false, [], [])) (x := (r10.getD (x13).toNat (false, [], []))) (z := (c15_0, c15_1, c15_2)) (y := (.agg [.bool c15_0, .ints .u64 c15_1, .ints .u64 c15_2])) (by kernel_rfl) hy19 rfl (by omega) rfl (by kernel_rfl) (Nat.le_of_ble_eq_true (by kernel_rfl)) (by kernel_rfl) (by kernel_rfl)) ?_
    refine W.adv 8 ?_
    exact W.to_loop (P := fold_Running_l0_s x11 x12 (wi (x13 + 1)) c15_0 c15_1 c15_2 y18 n10) (H _ ln20) (by kernel_rfl)
  · refine W.cond false (w := (decide (x13 < x12))) (by kernel_rfl) (decide_eq_false h8) ?_
    refine W.adv 12 ?_
    exact W.fin (x := .ret) (by kernel_rfl) (Ans.of (d := (.sref 10 1 3 0 n10)) (d' := (.list 3 (r10.map E_api_Rat))) (e' := (.list 3 (r10.map E_api_Rat))) (by kernel_rfl) ((congrArg (fun h => reify h DEPTH (.sref 10 1 3 0 n10)) (tidy_ver (b := 10) (v := 0) (fz := false) (y := .rows 3 (r10.map E_api_Rat)) (by kernel_rfl))).trans (rf_fullE (enc := E_api_Rat) E_api_Rat_t (b := 10) (v := 1) (w := 1) (fz := false) (xs := r10) (by kernel_rfl) rfl ln_10)) (by kernel_rfl) (by rw [H]))
theorem fold_Running_go {a0 : List T_api_Rat} {z : List T_api_Rat} (H : (∃ c1_0 : Bool, (∃ c1_1 : List Int, (∃ c1_2 : List Int, (rat_Of_R 0 c1_0 c1_1 c1_2 ∧ (0 ≤ (a0.length : Int) ∧ (56 * (a0.length : Int) ≤ 140737488351232 ∧ (∃ y3 : List T_api_Rat, y3 = List.replicate (a0.length : Int).toNat (false, [], []) ∧ (fold_Running_l0 a0 (a0.length : Int) 0 c1_0 c1_1 c1_2 y3 z))))))))) : fold_Running_R a0 z := by
  refine W.ic (zs := [(.list 3 (a0.map E_api_Rat))]) Tryz.func6 (by kernel_rfl) (by kernel_rfl) (by kernel_rfl) (by kernel_rfl) ?_
  refine W.adv 7 ?_
  obtain ⟨c1_0, c1_1, c1_2, hc2, H⟩ := H
  refine W.callR (g := 19) (ds := [.int .i64 0]) (es := [.int .i64 0]) (r := (.agg [.bool c1_0, .ints .u64 c1_1, .ints .u64 c1_2])) (by kernel_rfl) (by kernel_rfl) (Ic.args hc2 (by kernel_rfl)) (by kernel_rfl) ?_
  refine W.adv 7 ?_
  refine W.opS (OpIs.ln (n := (a0.map E_api_Rat).length) (m := a0.length) (by kernel_rfl) (by rw [List.length_map])) ?_
  obtain ⟨h6, h7, H⟩ := H
  obtain ⟨y3, hy4, H⟩ := H
  have ln5 : (a0.length : Int).toNat = y3.length := by rw [hy4, List.length_replicate]
  refine W.opH (OpIs.msE (enc := E_api_Rat) (z0 := (false, [], [])) (k1 := .i64) (k2 := .i64) (n := (a0.length : Int)) (m := (a0.length : Int)) (y := 56) (b := 10) (v := 0) (s := 3) (by kernel_rfl) hy4 h6 (Int.le_refl _) h7 (by omega)) ?_
  refine W.adv 7 ?_
  refine W.opS (OpIs.ln (n := (a0.map E_api_Rat).length) (m := a0.length) (by kernel_rfl) (by rw [List.length_map])) ?_
  refine W.adv 4 ?_
  exact W.to_loop (P := fold_Running_l0_s a0 (a0.length : Int) 0 c1_0 c1_1 c1_2 y3 ((a0.length : Int).toNat)) (H _ ln5) (by kernel_rfl)
/-! ### trivium/fold.Bounds -/
theorem fold_Bounds_go {a0 : List T_api_Rat} {zt0_0 : Bool} {zt0_1 : List Int} {zt0_2 : List Int} {zt1_0 : Bool} {zt1_1 : List Int} {zt1_2 : List Int} {zt2 : Int} (H : (∃ c1t0_0 : Bool, (∃ c1t0_1 : List Int, (∃ c1t0_2 : List Int, (∃ c1t1 : Int, (fold_Least_R a0 c1t0_0 c1t0_1 c1t0_2 c1t1 ∧ ((c1t1 = 0 ∧ (∃ c4t0_0 : Bool, (∃ c4t0_1 : List Int, (∃ c4t0_2 : List Int, (∃ c4t1 : Int, (fold_Greatest_R a0 c4t0_0 c4t0_1 c4t0_2 c4t1 ∧ (zt0_0 = c1t0_0 ∧ zt0_1 = c1t0_1 ∧ zt0_2 = c1t0_2 ∧ zt1_0 = c4t0_0 ∧ zt1_1 = c4t0_1 ∧ zt1_2 = c4t0_2 ∧ zt2 = c4t1))))))) ∨ (¬ c1t1 = 0 ∧ (zt0_0 = false ∧ zt0_1 = [] ∧ zt0_2 = [] ∧ zt1_0 = false ∧ zt1_1 = [] ∧ zt1_2 = [] ∧ zt2 = c1t1))))))))) : fold_Bounds_R a0 zt0_0 zt0_1 zt0_2 zt1_0 zt1_1 zt1_2 zt2 := by
  refine W.ic (zs := [(.list 3 (a0.map E_api_Rat))]) Tryz.func7 (by kernel_rfl) (by kernel_rfl) (by kernel_rfl) (by kernel_rfl) ?_
  refine W.adv 10 ?_
  obtain ⟨c1t0_0, c1t0_1, c1t0_2, c1t1, hc2, H⟩ := H
  refine W.callR (g := 21) (ds := [(.list 3 (a0.map E_api_Rat))]) (es := [(.list 3 (a0.map E_api_Rat))]) (r := (.tuple [(.agg [.bool c1t0_0, .ints .u64 c1t0_1, .ints .u64 c1t0_2]), .int .i64 c1t1])) (by kernel_rfl) (by kernel_rfl) (Ic.args hc2 (by kernel_rfl)) (by kernel_rfl) ?_
  refine W.adv 15 ?_
  rcases H with ⟨h3, H⟩ | ⟨h3, H⟩
  · refine W.cond false (w := (!(decide (c1t1 = 0)))) (by kernel_rfl) (congrArg (fun b => !b) (decide_eq_true h3)) ?_
    refine W.adv 5 ?_
    obtain ⟨c4t0_0, c4t0_1, c4t0_2, c4t1, hc5, H⟩ := H
    refine W.callR (g := 22) (ds := [(.list 3 (a0.map E_api_Rat))]) (es := [(.list 3 (a0.map E_api_Rat))]) (r := (.tuple [(.agg [.bool c4t0_0, .ints .u64 c4t0_1, .ints .u64 c4t0_2]), .int .i64 c4t1])) (by kernel_rfl) (by kernel_rfl) (Ic.args hc5 (by kernel_rfl)) (by kernel_rfl) ?_
    refine W.adv 19 ?_
    exact W.fin (x := .ret) (by kernel_rfl) (Ans.of (d := (.tuple [(.agg [.bool c1t0_0, .ints .u64 c1t0_1, .ints .u64 c1t0_2]), (.agg [.bool c4t0_0, .ints .u64 c4t0_1, .ints .u64 c4t0_2]), .int .i64 c4t1])) (d' := (.tuple [(.agg [.bool c1t0_0, .ints .u64 c1t0_1, .ints .u64 c1t0_2]), (.agg [.bool c4t0_0, .ints .u64 c4t0_1, .ints .u64 c4t0_2]), .int .i64 c4t1])) (e' := (.tuple [(.agg [.bool c1t0_0, .ints .u64 c1t0_1, .ints .u64 c1t0_2]), (.agg [.bool c4t0_0, .ints .u64 c4t0_1, .ints .u64 c4t0_2]), .int .i64 c4t1])) (by kernel_rfl) (by kernel_rfl) (by kernel_rfl) (by rw [H.1, H.2.1, H.2.2.1, H.2.2.2.1, H.2.2.2.2.1, H.2.2.2.2.2.1, H.2.2.2.2.2.2]))
  · refine W.cond true (w := (!(decide (c1t1 = 0)))) (by kernel_rfl) (congrArg (fun b => !b) (decide_eq_false h3)) ?_
    refine W.adv 12 ?_
    exact W.fin (x := .ret) (by kernel_rfl) (Ans.of (d := (.tuple [(.agg [.bool false, .nilS, .nilS]), (.agg [.bool false, .nilS, .nilS]), .int .i64 c1t1])) (d' := (.tuple [(.agg [.bool false, .nilS, .nilS]), (.agg [.bool false, .nilS, .nilS]), .int .i64 c1t1])) (e' := (.tuple [(.agg [.bool false, .ints .u64 [], .ints .u64 []]), (.agg [.bool false, .ints .u64 [], .ints .u64 []]), .int .i64 c1t1])) (by kernel_rfl) (by kernel_rfl) (by kernel_rfl) (by rw [H.1, H.2.1, H.2.2.1, H.2.2.2.1, H.2.2.2.2.1, H.2.2.2.2.2.1, H.2.2.2.2.2.2]))
/-! ### slices.SortStableFunc[[]trivium/api.Rat,trivium/api.Rat] -/
theorem slices_SortStableFunc___api_Rat_api_Rat__v0_go {a0 : List T_api_Rat} (H : (slices_stableCmpFunc_api_Rat__v0_R a0 (a0.length : Int) ∧ True)) : slices_SortStableFunc___api_Rat_api_Rat__v0_R a0 := by
  refine W.ic (zs := [(.list 3 (a0.map E_api_Rat)), .fn 18 [] []]) Tryz.func17 (by kernel_rfl) (by kernel_rfl) (by kernel_rfl) (by kernel_rfl) ?_
  refine W.adv 3 ?_
  refine W.opS (OpIs.ln (n := (a0.map E_api_Rat).length) (m := a0.length) (by kernel_rfl) (by rw [List.length_map])) ?_
  refine W.adv 1 ?_
  obtain ⟨hc2, H⟩ := H
  refine W.callT (g := 41) (ds := [(.list 3 (a0.map E_api_Rat)), (.int .i64 (a0.length : Int)), .fn 18 [] []]) (es := [(.list 3 (a0.map E_api_Rat)), (.int .i64 (a0.length : Int)), .fn 18 [] []]) (r := (.tuple [])) (by kernel_rfl) (by kernel_rfl) (by kernel_rfl) (Ic.args hc2 (by kernel_rfl)) ?_
  refine W.adv 1 ?_
  exact W.fin (x := .normal) (by kernel_rfl) (Ans.of (d := (.tuple [])) (d' := (.tuple [])) (e' := (.tuple [])) (by kernel_rfl) (by kernel_rfl) (by kernel_rfl) rfl)
/-! ### slices.stableCmpFunc[trivium/api.Rat] -/
noncomputable def slices_stableCmpFunc_api_Rat__v0_l0_s (x0 : List T_api_Rat) (x1 : Int) (x6 : Int) (x7 : Int) (x8 : Int) (j : Nat → D) (jb : Nat → Blk) (vs : Nat → Nat) : Cf := cfAt Tryz.f41 [1, 1, 0, 0] ⟨[(.list 3 (x0.map E_api_Rat)), .int .i64 x1, .fn 18 [] [], j 3, j 4, j 5, .int .i64 x6, .int .i64 x7, .int .i64 x8, j 9, j 10, j 11, j 12, j 13, j 14, j 15, j 16, j 17, j 18, j 19, j 20, j 21, j 22, j 23, j 24, j 25, j 26, j 27, j 28, j 29, j 30, j 31, j 32, j 33, j 34, j 35, j 36, j 37, j 38, j 39, j 40, j 41, j 42, j 43, j 44, j 45, j 46, j 47, j 48, j 49, j 50, j 51, j 52, j 53, j 54, j 55, j 56, j 57, j 58, j 59, j 60, j 61, j 62], [jb 0, jb 1, jb 2, jb 3, jb 4, jb 5, jb 6, jb 7, jb 8, jb 9, jb 10, jb 11, jb 12, jb 13, jb 14, jb 15, jb 16, jb 17, jb 18, jb 19, jb 20, jb 21, jb 22, jb 23, jb 24, jb 25, jb 26, jb 27, jb 28, jb 29, jb 30, jb 31, jb 32, jb 33, jb 34, jb 35, jb 36, jb 37, jb 38, jb 39, jb 40, jb 41, jb 42, jb 43, jb 44, jb 45, jb 46, jb 47, jb 48, jb 49, jb 50, jb 51, jb 52, jb 53, jb 54, jb 55, jb 56, jb 57, jb 58, jb 59, jb 60, jb 61, jb 62]⟩
def slices_stableCmpFunc_api_Rat__v0_l0 (x0 : List T_api_Rat) (x1 : Int) (x6 : Int) (x7 : Int) (x8 : Int) : Prop := ∀ j jb vs, W C F 41 0 (slices_stableCmpFunc_api_Rat__v0_l0_s x0 x1 x6 x7 x8  j jb vs) (Ans C Tryz.f41 (.tuple []))
noncomputable def slices_stableCmpFunc_api_Rat__v0_l1_s (x0 : List T_api_Rat) (x1 : Int) (x6 : Int) (j : Nat → D) (jb : Nat → Blk) (vs : Nat → Nat) : Cf := cfAt Tryz.f41 [1, 1, 1, 1, 0] ⟨[(.list 3 (x0.map E_api_Rat)), .int .i64 x1, .fn 18 [] [], j 3, j 4, j 5, .int .i64 x6, j 7, j 8, j 9, j 10, j 11, j 12, j 13, j 14, j 15, j 16, j 17, j 18, j 19, j 20, j 21, j 22, j 23, j 24, j 25, j 26, j 27, j 28, j 29, j 30, j 31, j 32, j 33, j 34, j 35, j 36, j 37, j 38, j 39, j 40, j 41, j 42, j 43, j 44, j 45, j 46, j 47, j 48, j 49, j 50, j 51, j 52, j 53, j 54, j 55, j 56, j 57, j 58, j 59, j 60, j 61, j 62], [jb 0, jb 1, jb 2, jb 3, jb 4, jb 5, jb 6, jb 7, jb 8, jb 9, jb 10, jb 11, jb 12, jb 13, jb 14, jb 15, jb 16, jb 17, jb 18, jb 19, jb 20, jb 21, jb 22, jb 23, jb 24, jb 25, jb 26, jb 27, jb 28, jb 29, jb 30, jb 31, jb 32, jb 33, jb 34, jb 35, jb 36, jb 37, jb 38, jb 39, jb 40, jb 41, jb 42, jb 43, jb 44, jb 45, jb 46, jb 47, jb 48, jb 49, jb 50, jb 51, jb 52, jb 53, jb 54, jb 55, jb 56, jb 57, jb 58, jb 59, jb 60, jb 61, jb 62]⟩
def slices_stableCmpFunc_api_Rat__v0_l1 (x0 : List T_api_Rat) (x1 : Int) (x6 : Int) : Prop := ∀ j jb vs, W C F 41 0 (slices_stableCmpFunc_api_Rat__v0_l1_s x0 x1 x6  j jb vs) (Ans C Tryz.f41 (.tuple []))
noncomputable def slices_stableCmpFunc_api_Rat__v0_l2_s (x0 : List T_api_Rat) (x1 : Int) (x6 : Int) (x7 : Int) (x8 : Int) (j : Nat → D) (jb : Nat → Blk) (vs : Nat → Nat) : Cf := cfAt Tryz.f41 [1, 1, 1, 1, 0, 0, 1, 0, 1, 0, 0] ⟨[(.list 3 (x0.map E_api_Rat)), .int .i64 x1, .fn 18 [] [], j 3, j 4, j 5, .int .i64 x6, .int .i64 x7, .int .i64 x8, j 9, j 10, j 11, j 12, j 13, j 14, j 15, j 16, j 17, j 18, j 19, j 20, j 21, j 22, j 23, j 24, j 25, j 26, j 27, j 28, j 29, j 30, j 31, j 32, j 33, j 34, j 35, j 36, j 37, j 38, j 39, j 40, j 41, j 42, j 43, j 44, j 45, j 46, j 47, j 48, j 49, j 50, j 51, j 52, j 53, j 54, j 55, j 56, j 57, j 58, j 59, j 60, j 61, j 62], [jb 0, jb 1, jb 2, jb 3, jb 4, jb 5, jb 6, jb 7, jb 8, jb 9, jb 10, jb 11, jb 12, jb 13, jb 14, jb 15, jb 16, jb 17, jb 18, jb 19, jb 20, jb 21, jb 22, jb 23, jb 24, jb 25, jb 26, jb 27, jb 28, jb 29, jb 30, jb 31, jb 32, jb 33, jb 34, jb 35, jb 36, jb 37, jb 38, jb 39, jb 40, jb 41, jb 42, jb 43, jb 44, jb 45, jb 46, jb 47, jb 48, jb 49, jb 50, jb 51, jb 52, jb 53, jb 54, jb 55, jb 56, jb 57, jb 58, jb 59, jb 60, jb 61, jb 62]⟩
def slices_stableCmpFunc_api_Rat__v0_l2 (x0 : List T_api_Rat) (x1 : Int) (x6 : Int) (x7 : Int) (x8 : Int) : Prop := ∀ j jb vs, W C F 41 0 (slices_stableCmpFunc_api_Rat__v0_l2_s x0 x1 x6 x7 x8  j jb vs) (Ans C Tryz.f41 (.tuple []))
theorem slices_stableCmpFunc_api_Rat__v0_l0_go {x0 : List T_api_Rat} {x1 : Int} {x6 : Int} {x7 : Int} {x8 : Int} (H : ((x8 ≤ x1 ∧ (slices_insertionSortCmpFunc_api_Rat__v0_R x0 x7 x8 ∧ (slices_stableCmpFunc_api_Rat__v0_l0 x0 x1 x6 x8 (wi (x8 + x6))))) ∨ (¬ x8 ≤ x1 ∧ (slices_insertionSortCmpFunc_api_Rat__v0_R x0 x7 x1 ∧ (slices_stableCmpFunc_api_Rat__v0_l1 x0 x1 x6))))) : slices_stableCmpFunc_api_Rat__v0_l0 x0 x1 x6 x7 x8 := by
  intro j jb vs
  refine W.adv 1 ?_
  refine W.adv 8 ?_
  rcases H with ⟨h1, H⟩ | ⟨h1, H⟩
  · refine W.cond true (w := (decide (x8 ≤ x1))) (by kernel_rfl) (decide_eq_true h1) ?_
    refine W.adv 9 ?_
    obtain ⟨hc3, H⟩ := H
    refine W.callT (g := 67) (ds := [(.list 3 (x0.map E_api_Rat)), .int .i64 x7, .int .i64 x8, .fn 18 [] []]) (es := [(.list 3 (x0.map E_api_Rat)), .int .i64 x7, .int .i64 x8, .fn 18 [] []]) (r := (.tuple [])) (by kernel_rfl) (by kernel_rfl) (by kernel_rfl) (Ic.args hc3 (by kernel_rfl)) ?_
    refine W.adv 16 ?_
    exact W.to_loop (P := slices_stableCmpFunc_api_Rat__v0_l0_s x0 x1 x6 x8 (wi (x8 + x6))) (H ) (by kernel_rfl)
  · refine W.cond false (w := (decide (x8 ≤ x1))) (by kernel_rfl) (decide_eq_false h1) ?_
    refine W.adv 11 ?_
    obtain ⟨hc5, H⟩ := H
    refine W.callT (g := 67) (ds := [(.list 3 (x0.map E_api_Rat)), .int .i64 x7, .int .i64 x1, .fn 18 [] []]) (es := [(.list 3 (x0.map E_api_Rat)), .int .i64 x7, .int .i64 x1, .fn 18 [] []]) (r := (.tuple [])) (by kernel_rfl) (by kernel_rfl) (by kernel_rfl) (Ic.args hc5 (by kernel_rfl)) ?_
    refine W.adv 3 ?_
    exact W.to_loop (P := slices_stableCmpFunc_api_Rat__v0_l1_s x0 x1 x6) (H ) (by kernel_rfl)
theorem slices_stableCmpFunc_api_Rat__v0_l1_go {x0 : List T_api_Rat} {x1 : Int} {x6 : Int} (H : ((x6 < x1 ∧ (slices_stableCmpFunc_api_Rat__v0_l2 x0 x1 x6 0 (wi (2 * x6)))) ∨ (¬ x6 < x1 ∧ True))) : slices_stableCmpFunc_api_Rat__v0_l1 x0 x1 x6 := by
  intro j jb vs
  refine W.adv 1 ?_
  refine W.adv 8 ?_
  rcases H with ⟨h6, H⟩ | ⟨h6, H⟩
  · refine W.cond true (w := (decide (x6 < x1))) (by kernel_rfl) (decide_eq_true h6) ?_
    refine W.adv 13 ?_
    exact W.to_loop (P := slices_stableCmpFunc_api_Rat__v0_l2_s x0 x1 x6 0 (wi (2 * x6))) (H ) (by kernel_rfl)
  · refine W.cond false (w := (decide (x6 < x1))) (by kernel_rfl) (decide_eq_false h6) ?_
    refine W.adv 4 ?_
    exact W.fin (x := .normal) (by kernel_rfl) (Ans.of (d := (.tuple [])) (d' := (.tuple [])) (e' := (.tuple [])) (by kernel_rfl) (by kernel_rfl) (by kernel_rfl) rfl)
theorem slices_stableCmpFunc_api_Rat__v0_l2_go {x0 : List T_api_Rat} {x1 : Int} {x6 : Int} {x7 : Int} {x8 : Int} (H : ((x8 ≤ x1 ∧ (slices_symMergeCmpFunc_api_Rat__v0_R x0 x7 (wi (x7 + x6)) x8 ∧ (slices_stableCmpFunc_api_Rat__v0_l2 x0 x1 x6 x8 (wi (x8 + (wi (2 * x6))))))) ∨ (¬ x8 ≤ x1 ∧ (((wi (x7 + x6)) < x1 ∧ (slices_symMergeCmpFunc_api_Rat__v0_R x0 x7 (wi (x7 + x6)) x1 ∧ (slices_stableCmpFunc_api_Rat__v0_l1 x0 x1 (wi (x6 * 2))))) ∨ (¬ (wi (x7 + x6)) < x1 ∧ (slices_stableCmpFunc_api_Rat__v0_l1 x0 x1 (wi (x6 * 2)))))))) : slices_stableCmpFunc_api_Rat__v0_l2 x0 x1 x6 x7 x8 := by
  intro j jb vs
  refine W.adv 1 ?_
  refine W.adv 8 ?_
  rcases H with ⟨h7, H⟩ | ⟨h7, H⟩
  · refine W.cond true (w := (decide (x8 ≤ x1))) (by kernel_rfl) (decide_eq_true h7) ?_
    refine W.adv 12 ?_
    obtain ⟨hc9, H⟩ := H
    refine W.callR (g := 68) (ds := [(.list 3 (x0.map E_api_Rat)), .int .i64 x7, (.int .i64 (wi (x7 + x6))), .int .i64 x8, .fn 18 [] []]) (es := [(.list 3 (x0.map E_api_Rat)), .int .i64 x7, (.int .i64 (wi (x7 + x6))), .int .i64 x8, .fn 18 [] []]) (r := (.tuple [])) (by kernel_rfl) (by kernel_rfl) (Ic.args hc9 (by kernel_rfl)) (by kernel_rfl) ?_
    refine W.adv 17 ?_
    exact W.to_loop (P := slices_stableCmpFunc_api_Rat__v0_l2_s x0 x1 x6 x8 (wi (x8 + (wi (2 * x6))))) (H ) (by kernel_rfl)
  · refine W.cond false (w := (decide (x8 ≤ x1))) (by kernel_rfl) (decide_eq_false h7) ?_
    refine W.adv 21 ?_
    rcases H with ⟨h10, H⟩ | ⟨h10, H⟩
    · refine W.cond true (w := (decide ((wi (x7 + x6)) < x1))) (by kernel_rfl) (decide_eq_true h10) ?_
      refine W.adv 6 ?_
      obtain ⟨hc12, H⟩ := H
      refine W.callR (g := 68) (ds := [(.list 3 (x0.map E_api_Rat)), .int .i64 x7, (.int .i64 (wi (x7 + x6))), .int .i64 x1, .fn 18 [] []]) (es := [(.list 3 (x0.map E_api_Rat)), .int .i64 x7, (.int .i64 (wi (x7 + x6))), .int .i64 x1, .fn 18 [] []]) (r := (.tuple [])) (by kernel_rfl) (by kernel_rfl) (Ic.args hc12 (by kernel_rfl)) (by kernel_rfl) ?_
      refine W.adv 9 ?_
      exact W.to_loop (P := slices_stableCmpFunc_api_Rat__v0_l1_s x0 x1 (wi (x6 * 2))) (H ) (by kernel_rfl)
    · refine W.cond false (w := (decide ((wi (x7 + x6)) < x1))) (by kernel_rfl) (decide_eq_false h10) ?_
      refine W.adv 9 ?_
      exact W.to_loop (P := slices_stableCmpFunc_api_Rat__v0_l1_s x0 x1 (wi (x6 * 2))) (H ) (by kernel_rfl)
theorem slices_stableCmpFunc_api_Rat__v0_go {a0 : List T_api_Rat} {a1 : Int} (H : (slices_stableCmpFunc_api_Rat__v0_l0 a0 a1 20 0 20)) : slices_stableCmpFunc_api_Rat__v0_R a0 a1 := by
  refine W.ic (zs := [(.list 3 (a0.map E_api_Rat)), .int .i64 a1, .fn 18 [] []]) Tryz.func41 (by kernel_rfl) (by kernel_rfl) (by kernel_rfl) (by kernel_rfl) ?_
  refine W.adv 14 ?_
  exact W.to_loop (P := slices_stableCmpFunc_api_Rat__v0_l0_s a0 a1 20 0 20) (H ) (by kernel_rfl)
/-! ### slices.insertionSortCmpFunc[trivium/api.Rat] -/
noncomputable def slices_insertionSortCmpFunc_api_Rat__v0_l0_s (x0 : List T_api_Rat) (x1 : Int) (x2 : Int) (x8 : Int) (j : Nat → D) (jb : Nat → Blk) (vs : Nat → Nat) : Cf := cfAt Tryz.f67 [1, 0] ⟨[(.list 3 (x0.map E_api_Rat)), .int .i64 x1, .int .i64 x2, .fn 18 [] [], j 4, j 5, j 6, j 7, .int .i64 x8, j 9, j 10, j 11, j 12, j 13, j 14, j 15, j 16, j 17, j 18, j 19, j 20, j 21, j 22, j 23, j 24, j 25, j 26, j 27, j 28, j 29, j 30, j 31, j 32, j 33, j 34, j 35, j 36, j 37, j 38, j 39, j 40, j 41, j 42, j 43, j 44, j 45, j 46, j 47, j 48, j 49, j 50, j 51, j 52], [jb 0, jb 1, jb 2, jb 3, jb 4, jb 5, jb 6, jb 7, jb 8, jb 9, jb 10, jb 11, jb 12, jb 13, jb 14, jb 15, jb 16, jb 17, jb 18, jb 19, jb 20, jb 21, jb 22, jb 23, jb 24, jb 25, jb 26, jb 27, jb 28, jb 29, jb 30, jb 31, jb 32, jb 33, jb 34, jb 35, jb 36, jb 37, jb 38, jb 39, jb 40, jb 41, jb 42, jb 43, jb 44, jb 45, jb 46, jb 47, jb 48, jb 49, jb 50, jb 51, jb 52]⟩
def slices_insertionSortCmpFunc_api_Rat__v0_l0 (x0 : List T_api_Rat) (x1 : Int) (x2 : Int) (x8 : Int) : Prop := ∀ j jb vs, W C F 67 0 (slices_insertionSortCmpFunc_api_Rat__v0_l0_s x0 x1 x2 x8  j jb vs) (Ans C Tryz.f67 (.tuple []))
noncomputable def slices_insertionSortCmpFunc_api_Rat__v0_l1_s (x0 : List T_api_Rat) (x1 : Int) (x2 : Int) (x8 : Int) (x9 : Int) (j : Nat → D) (jb : Nat → Blk) (vs : Nat → Nat) : Cf := cfAt Tryz.f67 [1, 0, 0, 1, 0, 0, 1, 0] ⟨[(.list 3 (x0.map E_api_Rat)), .int .i64 x1, .int .i64 x2, .fn 18 [] [], j 4, j 5, j 6, j 7, .int .i64 x8, .int .i64 x9, j 10, j 11, j 12, j 13, j 14, j 15, j 16, j 17, j 18, j 19, j 20, j 21, j 22, j 23, j 24, j 25, j 26, j 27, j 28, j 29, j 30, j 31, j 32, j 33, j 34, j 35, j 36, j 37, j 38, j 39, j 40, j 41, j 42, j 43, j 44, j 45, j 46, j 47, j 48, j 49, j 50, j 51, j 52], [jb 0, jb 1, jb 2, jb 3, jb 4, jb 5, jb 6, jb 7, jb 8, jb 9, jb 10, jb 11, jb 12, jb 13, jb 14, jb 15, jb 16, jb 17, jb 18, jb 19, jb 20, jb 21, jb 22, jb 23, jb 24, jb 25, jb 26, jb 27, jb 28, jb 29, jb 30, jb 31, jb 32, jb 33, jb 34, jb 35, jb 36, jb 37, jb 38, jb 39, jb 40, jb 41, jb 42, jb 43, jb 44, jb 45, jb 46, jb 47, jb 48, jb 49, jb 50, jb 51, jb 52]⟩
def slices_insertionSortCmpFunc_api_Rat__v0_l1 (x0 : List T_api_Rat) (x1 : Int) (x2 : Int) (x8 : Int) (x9 : Int) : Prop := ∀ j jb vs, W C F 67 0 (slices_insertionSortCmpFunc_api_Rat__v0_l1_s x0 x1 x2 x8 x9  j jb vs) (Ans C Tryz.f67 (.tuple []))
theorem slices_insertionSortCmpFunc_api_Rat__v0_l0_go {x0 : List T_api_Rat} {x1 : Int} {x2 : Int} {x8 : Int} (H : ((x8 < x2 ∧ (slices_insertionSortCmpFunc_api_Rat__v0_l1 x0 x1 x2 x8 x8)) ∨ (¬ x8 < x2 ∧ True))) : slices_insertionSortCmpFunc_api_Rat__v0_l0 x0 x1 x2 x8 := by
  intro j jb vs
  refine W.adv 1 ?_
  refine W.adv 8 ?_
  rcases H with ⟨h1, H⟩ | ⟨h1, H⟩
  · refine W.cond true (w := (decide (x8 < x2))) (by kernel_rfl) (decide_eq_true h1) ?_
    refine W.adv 11 ?_
    exact W.to_loop (P := slices_insertionSortCmpFunc_api_Rat__v0_l1_s x0 x1 x2 x8 x8) (H ) (by kernel_rfl)
  · refine W.cond false (w := (decide (x8 < x2))) (by kernel_rfl) (decide_eq_false h1) ?_
    refine W.adv 4 ?_
    exact W.fin (x := .normal) (by kernel_rfl) (Ans.of (d := (.tuple [])) (d' := (.tuple [])) (e' := (.tuple [])) (by kernel_rfl) (by kernel_rfl) (by kernel_rfl) rfl)
theorem slices_insertionSortCmpFunc_api_Rat__v0_l1_go {x0 : List T_api_Rat} {x1 : Int} {x2 : Int} {x8 : Int} {x9 : Int} (H : ((x1 < x9 ∧ (0 ≤ x9 ∧ (x9 < (x0.length : Int) ∧ (∃ e5 : Bool, (∃ e6 : List Int, (∃ e7 : List Int, (x0.getD (x9).toNat (false, [], []) = (e5, e6, e7) ∧ (0 ≤ (wi (x9 - 1)) ∧ ((wi (x9 - 1)) < (x0.length : Int) ∧ (∃ e11 : Bool, (∃ e12 : List Int, (∃ e13 : List Int, (x0.getD (wi (x9 - 1)).toNat (false, [], []) = (e11, e12, e13) ∧ (∃ c15 : Int, (rat_Cmp_R e5 e6 e7 e11 e12 e13 c15 ∧ (¬ c15 < 0 ∧ (slices_insertionSortCmpFunc_api_Rat__v0_l0 x0 x1 x2 (wi (x8 + 1))))))))))))))))))) ∨ (¬ x1 < x9 ∧ (slices_insertionSortCmpFunc_api_Rat__v0_l0 x0 x1 x2 (wi (x8 + 1)))))) : slices_insertionSortCmpFunc_api_Rat__v0_l1 x0 x1 x2 x8 x9 := by
  intro j jb vs
  refine W.adv 1 ?_
  refine W.adv 7 ?_
  rcases H with ⟨h2, H⟩ | ⟨h2, H⟩
  · refine W.guard true (w := ((decide (x1 < x9)) == true)) (by kernel_rfl) (congrArg (fun b => b == true) (decide_eq_true h2)) ?_
    refine W.adv 1 ?_
    refine W.guard true (w := ((decide (x1 < x9)) == true)) (by kernel_rfl) (congrArg (fun b => b == true) (decide_eq_true h2)) ?_
    refine W.adv 1 ?_
    refine W.guard true (w := ((decide (x1 < x9)) == true)) (by kernel_rfl) (congrArg (fun b => b == true) (decide_eq_true h2)) ?_
    refine W.adv 1 ?_
    refine W.guard true (w := ((decide (x1 < x9)) == true)) (by kernel_rfl) (congrArg (fun b => b == true) (decide_eq_true h2)) ?_
    obtain ⟨h3, h4, H⟩ := H
    obtain ⟨e5, e6, e7, he8, H⟩ := H
    refine W.opS (OpIs.ixE (enc := E_api_Rat) (n := 3) (k' := .i64) (L := x0) (i := x9) (d0 := (false, [], [])) (x := (e5, e6, e7)) (by kernel_rfl) h3 h4 he8) ?_
    refine W.guard true (w := ((decide (x1 < x9)) == true)) (by kernel_rfl) (congrArg (fun b => b == true) (decide_eq_true h2)) ?_
    refine W.adv 1 ?_
    refine W.guard true (w := ((decide (x1 < x9)) == true)) (by kernel_rfl) (congrArg (fun b => b == true) (decide_eq_true h2)) ?_
    refine W.adv 1 ?_
    refine W.guard true (w := ((decide (x1 < x9)) == true)) (by kernel_rfl) (congrArg (fun b => b == true) (decide_eq_true h2)) ?_
    refine W.adv 1 ?_
    refine W.guard true (w := ((decide (x1 < x9)) == true)) (by kernel_rfl) (congrArg (fun b => b == true) (decide_eq_true h2)) ?_
    refine W.adv 1 ?_
    refine W.guard true (w := ((decide (x1 < x9)) == true)) (by kernel_rfl) (congrArg (fun b => b == true) (decide_eq_true h2)) ?_
    obtain ⟨h9, h10, H⟩ := H
    obtain ⟨e11, e12, e13, he14, H⟩ := H
    refine W.opS (OpIs.ixE (enc := E_api_Rat) (n := 3) (k' := .i64) (L := x0) (i := (wi (x9 - 1))) (d0 := (false, [], [])) (x := (e11, e12, e13)) (by kernel_rfl) h9 h10 he14) ?_
    refine W.guard true (w := ((decide (x1 < x9)) == true)) (by kernel_rfl) (congrArg (fun b => b == true) (decide_eq_true h2)) ?_
    refine W.adv 1 ?_
    refine W.guard true (w := ((decide (x1 < x9)) == true)) (by kernel_rfl) (congrArg (fun b => b == true) (decide_eq_true h2)) ?_
    obtain ⟨c15, hc16, H⟩ := H
    refine W.callR (g := 18) (ds := [(.agg [.bool e5, .ints .u64 e6, .ints .u64 e7]), (.agg [.bool e11, .ints .u64 e12, .ints .u64 e13])]) (es := [(.agg [.bool e5, .ints .u64 e6, .ints .u64 e7]), (.agg [.bool e11, .ints .u64 e12, .ints .u64 e13])]) (r := (.int .i64 c15)) (by kernel_rfl) (by kernel_rfl) (Ic.args hc16 (by kernel_rfl)) (by kernel_rfl) ?_
    refine W.guard true (w := ((decide (x1 < x9)) == true)) (by kernel_rfl) (congrArg (fun b => b == true) (decide_eq_true h2)) ?_
    refine W.adv 1 ?_
    refine W.opS (OpIs.pk true (t := (decide (x1 < x9))) (x := (.bool (decide (c15 < 0)))) (y := (.bool false)) (by kernel_rfl) (decide_eq_true h2)) ?_
    refine W.adv 2 ?_
    obtain ⟨h17, H⟩ := H
    refine W.cond false (w := (decide (c15 < 0))) (by kernel_rfl) (decide_eq_false h17) ?_
    refine W.adv 12 ?_
    exact W.to_loop (P := slices_insertionSortCmpFunc_api_Rat__v0_l0_s x0 x1 x2 (wi (x8 + 1))) (H ) (by kernel_rfl)
  · refine W.guard false (w := ((decide (x1 < x9)) == true)) (by kernel_rfl) (congrArg (fun b => b == true) (decide_eq_false h2)) ?_
    refine W.guard false (w := ((decide (x1 < x9)) == true)) (by kernel_rfl) (congrArg (fun b => b == true) (decide_eq_false h2)) ?_
    refine W.guard false (w := ((decide (x1 < x9)) == true)) (by kernel_rfl) (congrArg (fun b => b == true) (decide_eq_false h2)) ?_
    refine W.guard false (w := ((decide (x1 < x9)) == true)) (by kernel_rfl) (congrArg (fun b => b == true) (decide_eq_false h2)) ?_
    refine W.guard false (w := ((decide (x1 < x9)) == true)) (by kernel_rfl) (congrArg (fun b => b == true) (decide_eq_false h2)) ?_
    refine W.guard false (w := ((decide (x1 < x9)) == true)) (by kernel_rfl) (congrArg (fun b => b == true) (decide_eq_false h2)) ?_
    refine W.guard false (w := ((decide (x1 < x9)) == true)) (by kernel_rfl) (congrArg (fun b => b == true) (decide_eq_false h2)) ?_
    refine W.guard false (w := ((decide (x1 < x9)) == true)) (by kernel_rfl) (congrArg (fun b => b == true) (decide_eq_false h2)) ?_
    refine W.guard false (w := ((decide (x1 < x9)) == true)) (by kernel_rfl) (congrArg (fun b => b == true) (decide_eq_false h2)) ?_
    refine W.guard false (w := ((decide (x1 < x9)) == true)) (by kernel_rfl) (congrArg (fun b => b == true) (decide_eq_false h2)) ?_
    refine W.guard false (w := ((decide (x1 < x9)) == true)) (by kernel_rfl) (congrArg (fun b => b == true) (decide_eq_false h2)) ?_
    refine W.guard false (w := ((decide (x1 < x9)) == true)) (by kernel_rfl) (congrArg (fun b => b == true) (decide_eq_false h2)) ?_
    refine W.opS (OpIs.pk false (t := (decide (x1 < x9))) (x := (.tuple [])) (y := (.bool false)) (by kernel_rfl) (decide_eq_false h2)) ?_
    refine W.adv 15 ?_
    exact W.to_loop (P := slices_insertionSortCmpFunc_api_Rat__v0_l0_s x0 x1 x2 (wi (x8 + 1))) (H ) (by kernel_rfl)
theorem slices_insertionSortCmpFunc_api_Rat__v0_go {a0 : List T_api_Rat} {a1 : Int} {a2 : Int} (H : (slices_insertionSortCmpFunc_api_Rat__v0_l0 a0 a1 a2 (wi (a1 + 1)))) : slices_insertionSortCmpFunc_api_Rat__v0_R a0 a1 a2 := by
  refine W.ic (zs := [(.list 3 (a0.map E_api_Rat)), .int .i64 a1, .int .i64 a2, .fn 18 [] []]) Tryz.func67 (by kernel_rfl) (by kernel_rfl) (by kernel_rfl) (by kernel_rfl) ?_
  refine W.adv 8 ?_
  exact W.to_loop (P := slices_insertionSortCmpFunc_api_Rat__v0_l0_s a0 a1 a2 (wi (a1 + 1))) (H ) (by kernel_rfl)
/-! ### slices.SortStableFunc[[]trivium/api.Rat,trivium/api.Rat], on its caller's rows -/
theorem slices_SortStableFunc___api_Rat_api_Rat__L1_go {xs : List T_api_Rat} {ys : List T_api_Rat} (H : ∀ (cb : Nat → Blk) (ver  : Nat), (∃ y1 : List T_api_Rat, (y1.length = xs.length ∧ (slices_stableCmpFunc_api_Rat__L1_R xs (xs.length : Int) y1 ∧ (ys = y1))))) : slices_SortStableFunc___api_Rat_api_Rat__L1_R xs ys := by
  intro cb ver  n ln
  replace H := H cb ver 
  refine W.scL (n := 9) Tryz.func17 (by kernel_rfl) (by kernel_rfl) (by kernel_rfl) (by kernel_rfl) ?_
  refine W.adv 3 ?_
  refine W.opS (OpIs.ln (n := n) (m := xs.length) (by kernel_rfl) ln) ?_
  refine W.adv 1 ?_
  obtain ⟨y1, hl4, hc2, H⟩ := H
  have ln5 : n = y1.length := by rw [hl4] <;> exact ln
  refine W.sharedL (g := 41) (ds := [.sref 5 ver 3 0 n, (.int .i64 (xs.length : Int)), .fn 18 [] []]) (d := (.tuple [])) (P := (fun cb => [cb 0, cb 1, cb 2, cb 3, cb 4, ⟨ver, false, .rows 3 (xs.map E_api_Rat)⟩, cb 6, cb 7, cb 8, cb 9, cb 10, cb 11, cb 12, cb 13, cb 14, cb 15, cb 16, cb 17])) (P' := (fun cb => [cb 0, cb 1, cb 2, cb 3, cb 4, ⟨ver, false, .rows 3 (y1.map E_api_Rat)⟩, cb 6, cb 7, cb 8, cb 9, cb 10, cb 11, cb 12, cb 13, cb 14, cb 15, cb 16, cb 17])) (by kernel_rfl) (by kernel_rfl) (by kernel_rfl) (fun cb => hc2 cb _ _ ln) (fun rl3 => ?_)
  refine W.adv 1 ?_
  exact W.fin (x := .normal) (by kernel_rfl) (SAnsL.any (d0 := (.tuple [])) (h0 := [cb 0, cb 1, cb 2, cb 3, cb 4, ⟨ver, false, .rows 3 (y1.map E_api_Rat)⟩, cb 6, cb 7, cb 8]) (by kernel_rfl) rfl (by kernel_rfl) (by kernel_rfl) (by rw [H]))
/-! ### slices.stableCmpFunc[trivium/api.Rat], on its caller's rows -/
noncomputable def slices_stableCmpFunc_api_Rat__L1_l0_s (cb : Nat → Blk) (ver : Nat) (x1 : Int) (x6 : Int) (x7 : Int) (x8 : Int) (r5 : List T_api_Rat) (n5 : Nat) (j : Nat → D) (jb : Nat → Blk) (vs : Nat → Nat) : Cf := cfAt Tryz.f41 [1, 1, 0, 0] ⟨[.sref 5 ver 3 0 n5, .int .i64 x1, .fn 18 [] [], j 3, j 4, j 5, .int .i64 x6, .int .i64 x7, .int .i64 x8, j 9, j 10, j 11, j 12, j 13, j 14, j 15, j 16, j 17, j 18, j 19, j 20, j 21, j 22, j 23, j 24, j 25, j 26, j 27, j 28, j 29, j 30, j 31, j 32, j 33, j 34, j 35, j 36, j 37, j 38, j 39, j 40, j 41, j 42, j 43, j 44, j 45, j 46, j 47, j 48, j 49, j 50, j 51, j 52, j 53, j 54, j 55, j 56, j 57, j 58, j 59, j 60, j 61, j 62], [cb 0, cb 1, cb 2, cb 3, cb 4, ⟨ver, false, .rows 3 (r5.map E_api_Rat)⟩, cb 6, cb 7, cb 8, cb 9, cb 10, cb 11, cb 12, cb 13, cb 14, cb 15, cb 16, cb 17, noBlk, noBlk, noBlk, noBlk, noBlk, noBlk, noBlk, noBlk, noBlk, noBlk, noBlk, noBlk, noBlk, noBlk, noBlk, noBlk, noBlk, noBlk, noBlk, noBlk, noBlk, noBlk, noBlk, noBlk, noBlk, noBlk, noBlk, noBlk, noBlk, noBlk, noBlk, noBlk, noBlk, noBlk, noBlk, noBlk, noBlk, noBlk, noBlk, noBlk, noBlk, noBlk, noBlk, noBlk, noBlk, noBlk, noBlk, noBlk, noBlk, noBlk, noBlk, noBlk, noBlk, noBlk, noBlk, noBlk, noBlk, noBlk, noBlk, noBlk, noBlk, noBlk, noBlk]⟩
def slices_stableCmpFunc_api_Rat__L1_l0 (cb : Nat → Blk) (ver : Nat) (x1 : Int) (x6 : Int) (x7 : Int) (x8 : Int) (r5 : List T_api_Rat) (ys : List T_api_Rat) : Prop := ∀ n5, n5 = r5.length → ∀ j jb vs, W C F 41 18 (slices_stableCmpFunc_api_Rat__L1_l0_s cb ver x1 x6 x7 x8 r5 n5 j jb vs) (SAnsL C Tryz.f41 18 (.tuple []) [cb 0, cb 1, cb 2, cb 3, cb 4, ⟨ver, false, .rows 3 (ys.map E_api_Rat)⟩, cb 6, cb 7, cb 8, cb 9, cb 10, cb 11, cb 12, cb 13, cb 14, cb 15, cb 16, cb 17])
noncomputable def slices_stableCmpFunc_api_Rat__L1_l1_s (cb : Nat → Blk) (ver : Nat) (rl : List Blk) (x1 : Int) (x6 : Int) (x7 : Int) (x8 : Int) (r5 : List T_api_Rat) (n5 : Nat) (j : Nat → D) (jb : Nat → Blk) (vs : Nat → Nat) : Cf := cfAt Tryz.f41 [1, 1, 0, 0] ⟨[.sref 5 ver 3 0 n5, .int .i64 x1, .fn 18 [] [], j 3, j 4, j 5, .int .i64 x6, .int .i64 x7, .int .i64 x8, j 9, j 10, j 11, j 12, j 13, j 14, j 15, j 16, j 17, j 18, j 19, j 20, j 21, j 22, j 23, j 24, j 25, j 26, j 27, j 28, j 29, j 30, j 31, j 32, j 33, j 34, j 35, j 36, j 37, j 38, j 39, j 40, j 41, j 42, j 43, j 44, j 45, j 46, j 47, j 48, j 49, j 50, j 51, j 52, j 53, j 54, j 55, j 56, j 57, j 58, j 59, j 60, j 61, j 62], [cb 0, cb 1, cb 2, cb 3, cb 4, ⟨ver, false, .rows 3 (r5.map E_api_Rat)⟩, cb 6, cb 7, cb 8, cb 9, cb 10, cb 11, cb 12, cb 13, cb 14, cb 15, cb 16, cb 17, noBlk, noBlk, noBlk, noBlk, noBlk, noBlk, noBlk, noBlk, noBlk, noBlk, noBlk, noBlk, noBlk, noBlk, noBlk, noBlk, noBlk, noBlk, noBlk, noBlk, noBlk, noBlk, noBlk, noBlk, noBlk, noBlk, noBlk, noBlk, noBlk, noBlk, noBlk, noBlk, noBlk, noBlk, noBlk, noBlk, noBlk, noBlk, noBlk, noBlk, noBlk, noBlk, noBlk, noBlk, noBlk, noBlk, noBlk, noBlk, noBlk, noBlk, noBlk, noBlk, noBlk, noBlk, noBlk, noBlk, noBlk, noBlk, noBlk, noBlk, noBlk, noBlk, noBlk] ++ rl⟩
def slices_stableCmpFunc_api_Rat__L1_l1 (cb : Nat → Blk) (ver : Nat) (rl : List Blk) (x1 : Int) (x6 : Int) (x7 : Int) (x8 : Int) (r5 : List T_api_Rat) (ys : List T_api_Rat) : Prop := ∀ n5, n5 = r5.length → ∀ j jb vs, W C F 41 18 (slices_stableCmpFunc_api_Rat__L1_l1_s cb ver rl x1 x6 x7 x8 r5 n5 j jb vs) (SAnsL C Tryz.f41 18 (.tuple []) [cb 0, cb 1, cb 2, cb 3, cb 4, ⟨ver, false, .rows 3 (ys.map E_api_Rat)⟩, cb 6, cb 7, cb 8, cb 9, cb 10, cb 11, cb 12, cb 13, cb 14, cb 15, cb 16, cb 17])
noncomputable def slices_stableCmpFunc_api_Rat__L1_l2_s (cb : Nat → Blk) (ver : Nat) (rl : List Blk) (x1 : Int) (x6 : Int) (r5 : List T_api_Rat) (n5 : Nat) (j : Nat → D) (jb : Nat → Blk) (vs : Nat → Nat) : Cf := cfAt Tryz.f41 [1, 1, 1, 1, 0] ⟨[.sref 5 ver 3 0 n5, .int .i64 x1, .fn 18 [] [], j 3, j 4, j 5, .int .i64 x6, j 7, j 8, j 9, j 10, j 11, j 12, j 13, j 14, j 15, j 16, j 17, j 18, j 19, j 20, j 21, j 22, j 23, j 24, j 25, j 26, j 27, j 28, j 29, j 30, j 31, j 32, j 33, j 34, j 35, j 36, j 37, j 38, j 39, j 40, j 41, j 42, j 43, j 44, j 45, j 46, j 47, j 48, j 49, j 50, j 51, j 52, j 53, j 54, j 55, j 56, j 57, j 58, j 59, j 60, j 61, j 62], [cb 0, cb 1, cb 2, cb 3, cb 4, ⟨ver, false, .rows 3 (r5.map E_api_Rat)⟩, cb 6, cb 7, cb 8, cb 9, cb 10, cb 11, cb 12, cb 13, cb 14, cb 15, cb 16, cb 17, noBlk, noBlk, noBlk, noBlk, noBlk, noBlk, noBlk, noBlk, noBlk, noBlk, noBlk, noBlk, noBlk, noBlk, noBlk, noBlk, noBlk, noBlk, noBlk, noBlk, noBlk, noBlk, noBlk, noBlk, noBlk, noBlk, noBlk, noBlk, noBlk, noBlk, noBlk, noBlk, noBlk, noBlk, noBlk, noBlk, noBlk, noBlk, noBlk, noBlk, noBlk, noBlk, noBlk, noBlk, noBlk, noBlk, noBlk, noBlk, noBlk, noBlk, noBlk, noBlk, noBlk, noBlk, noBlk, noBlk, noBlk, noBlk, noBlk, noBlk, noBlk, noBlk, noBlk] ++ rl⟩
def slices_stableCmpFunc_api_Rat__L1_l2 (cb : Nat → Blk) (ver : Nat) (rl : List Blk) (x1 : Int) (x6 : Int) (r5 : List T_api_Rat) (ys : List T_api_Rat) : Prop := ∀ n5, n5 = r5.length → ∀ j jb vs, W C F 41 18 (slices_stableCmpFunc_api_Rat__L1_l2_s cb ver rl x1 x6 r5 n5 j jb vs) (SAnsL C Tryz.f41 18 (.tuple []) [cb 0, cb 1, cb 2, cb 3, cb 4, ⟨ver, false, .rows 3 (ys.map E_api_Rat)⟩, cb 6, cb 7, cb 8, cb 9, cb 10, cb 11, cb 12, cb 13, cb 14, cb 15, cb 16, cb 17])
noncomputable def slices_stableCmpFunc_api_Rat__L1_l3_s (cb : Nat → Blk) (ver : Nat) (rl : List Blk) (x1 : Int) (x6 : Int) (x7 : Int) (x8 : Int) (r5 : List T_api_Rat) (n5 : Nat) (j : Nat → D) (jb : Nat → Blk) (vs : Nat → Nat) : Cf := cfAt Tryz.f41 [1, 1, 1, 1, 0, 0, 1, 0, 1, 0, 0] ⟨[.sref 5 ver 3 0 n5, .int .i64 x1, .fn 18 [] [], j 3, j 4, j 5, .int .i64 x6, .int .i64 x7, .int .i64 x8, j 9, j 10, j 11, j 12, j 13, j 14, j 15, j 16, j 17, j 18, j 19, j 20, j 21, j 22, j 23, j 24, j 25, j 26, j 27, j 28, j 29, j 30, j 31, j 32, j 33, j 34, j 35, j 36, j 37, j 38, j 39, j 40, j 41, j 42, j 43, j 44, j 45, j 46, j 47, j 48, j 49, j 50, j 51, j 52, j 53, j 54, j 55, j 56, j 57, j 58, j 59, j 60, j 61, j 62], [cb 0, cb 1, cb 2, cb 3, cb 4, ⟨ver, false, .rows 3 (r5.map E_api_Rat)⟩, cb 6, cb 7, cb 8, cb 9, cb 10, cb 11, cb 12, cb 13, cb 14, cb 15, cb 16, cb 17, noBlk, noBlk, noBlk, noBlk, noBlk, noBlk, noBlk, noBlk, noBlk, noBlk, noBlk, noBlk, noBlk, noBlk, noBlk, noBlk, noBlk, noBlk, noBlk, noBlk, noBlk, noBlk, noBlk, noBlk, noBlk, noBlk, noBlk, noBlk, noBlk, noBlk, noBlk, noBlk, noBlk, noBlk, noBlk, noBlk, noBlk, noBlk, noBlk, noBlk, noBlk, noBlk, noBlk, noBlk, noBlk, noBlk, noBlk, noBlk, noBlk, noBlk, noBlk, noBlk, noBlk, noBlk, noBlk, noBlk, noBlk, noBlk, noBlk, noBlk, noBlk, noBlk, noBlk] ++ rl⟩
def slices_stableCmpFunc_api_Rat__L1_l3 (cb : Nat → Blk) (ver : Nat) (rl : List Blk) (x1 : Int) (x6 : Int) (x7 : Int) (x8 : Int) (r5 : List T_api_Rat) (ys : List T_api_Rat) : Prop := ∀ n5, n5 = r5.length → ∀ j jb vs, W C F 41 18 (slices_stableCmpFunc_api_Rat__L1_l3_s cb ver rl x1 x6 x7 x8 r5 n5 j jb vs) (SAnsL C Tryz.f41 18 (.tuple []) [cb 0, cb 1, cb 2, cb 3, cb 4, ⟨ver, false, .rows 3 (ys.map E_api_Rat)⟩, cb 6, cb 7, cb 8, cb 9, cb 10, cb 11, cb 12, cb 13, cb 14, cb 15, cb 16, cb 17])
theorem slices_stableCmpFunc_api_Rat__L1_l0_go {cb : Nat → Blk} {ver : Nat} {x1 : Int} {x6 : Int} {x7 : Int} {x8 : Int} {r5 : List T_api_Rat} {ys : List T_api_Rat} (H : ((x8 ≤ x1 ∧ (∃ y2 : List T_api_Rat, (y2.length = r5.length ∧ (slices_insertionSortCmpFunc_api_Rat__L1_R r5 x7 x8 y2 ∧ (∀ rl4 : List Blk, (slices_stableCmpFunc_api_Rat__L1_l1 cb ver rl4 x1 x6 x8 (wi (x8 + x6)) y2 ys)))))) ∨ (¬ x8 ≤ x1 ∧ (∃ y7 : List T_api_Rat, (y7.length = r5.length ∧ (slices_insertionSortCmpFunc_api_Rat__L1_R r5 x7 x1 y7 ∧ (∀ rl9 : List Blk, (slices_stableCmpFunc_api_Rat__L1_l2 cb ver rl9 x1 x6 y7 ys)))))))) : slices_stableCmpFunc_api_Rat__L1_l0 cb ver x1 x6 x7 x8 r5 ys := by
  intro n5 ln_5 j jb vs
  refine W.adv 1 ?_
  refine W.adv 8 ?_
  rcases H with ⟨h1, H⟩ | ⟨h1, H⟩
  · refine W.cond true (w := (decide (x8 ≤ x1))) (by kernel_rfl) (decide_eq_true h1) ?_
    refine W.adv 9 ?_
    obtain ⟨y2, hl5, hc3, H⟩ := H
    have ln6 : n5 = y2.length := by rw [hl5] <;> exact ln_5
    refine W.sharedL (g := 67) (ds := [.sref 5 ver 3 0 n5, .int .i64 x7, .int .i64 x8, .fn 18 [] []]) (d := (.tuple [])) (P := (fun cb => [cb 0, cb 1, cb 2, cb 3, cb 4, ⟨ver, false, .rows 3 (r5.map E_api_Rat)⟩, cb 6, cb 7, cb 8, cb 9, cb 10, cb 11, cb 12, cb 13, cb 14, cb 15, cb 16, cb 17, cb 18, cb 19, cb 20, cb 21, cb 22, cb 23, cb 24, cb 25, cb 26, cb 27, cb 28, cb 29, cb 30, cb 31, cb 32, cb 33, cb 34, cb 35, cb 36, cb 37, cb 38, cb 39, cb 40, cb 41, cb 42, cb 43, cb 44, cb 45, cb 46, cb 47, cb 48, cb 49, cb 50, cb 51, cb 52, cb 53, cb 54, cb 55, cb 56, cb 57, cb 58, cb 59, cb 60, cb 61, cb 62, cb 63, cb 64, cb 65, cb 66, cb 67, cb 68, cb 69, cb 70, cb 71, cb 72, cb 73, cb 74, cb 75, cb 76, cb 77, cb 78, cb 79, cb 80])) (P' := (fun cb => [cb 0, cb 1, cb 2, cb 3, cb 4, ⟨ver, false, .rows 3 (y2.map E_api_Rat)⟩, cb 6, cb 7, cb 8, cb 9, cb 10, cb 11, cb 12, cb 13, cb 14, cb 15, cb 16, cb 17, cb 18, cb 19, cb 20, cb 21, cb 22, cb 23, cb 24, cb 25, cb 26, cb 27, cb 28, cb 29, cb 30, cb 31, cb 32, cb 33, cb 34, cb 35, cb 36, cb 37, cb 38, cb 39, cb 40, cb 41, cb 42, cb 43, cb 44, cb 45, cb 46, cb 47, cb 48, cb 49, cb 50, cb 51, cb 52, cb 53, cb 54, cb 55, cb 56, cb 57, cb 58, cb 59, cb 60, cb 61, cb 62, cb 63, cb 64, cb 65, cb 66, cb 67, cb 68, cb 69, cb 70, cb 71, cb 72, cb 73, cb 74, cb 75, cb 76, cb 77, cb 78, cb 79, cb 80])) (by kernel_rfl) (by kernel_rfl) (by kernel_rfl) (fun cb => hc3 cb _ _ ln_5) (fun rl4 => ?_)
    replace H := H rl4
    refine W.adv 16 ?_
    exact W.to_loop (P := slices_stableCmpFunc_api_Rat__L1_l1_s cb ver rl4 x1 x6 x8 (wi (x8 + x6)) y2 n5) (H _ ln6) (by kernel_rfl)
  · refine W.cond false (w := (decide (x8 ≤ x1))) (by kernel_rfl) (decide_eq_false h1) ?_
    refine W.adv 11 ?_
    obtain ⟨y7, hl10, hc8, H⟩ := H
    have ln11 : n5 = y7.length := by rw [hl10] <;> exact ln_5
    refine W.sharedL (g := 67) (ds := [.sref 5 ver 3 0 n5, .int .i64 x7, .int .i64 x1, .fn 18 [] []]) (d := (.tuple [])) (P := (fun cb => [cb 0, cb 1, cb 2, cb 3, cb 4, ⟨ver, false, .rows 3 (r5.map E_api_Rat)⟩, cb 6, cb 7, cb 8, cb 9, cb 10, cb 11, cb 12, cb 13, cb 14, cb 15, cb 16, cb 17, cb 18, cb 19, cb 20, cb 21, cb 22, cb 23, cb 24, cb 25, cb 26, cb 27, cb 28, cb 29, cb 30, cb 31, cb 32, cb 33, cb 34, cb 35, cb 36, cb 37, cb 38, cb 39, cb 40, cb 41, cb 42, cb 43, cb 44, cb 45, cb 46, cb 47, cb 48, cb 49, cb 50, cb 51, cb 52, cb 53, cb 54, cb 55, cb 56, cb 57, cb 58, cb 59, cb 60, cb 61, cb 62, cb 63, cb 64, cb 65, cb 66, cb 67, cb 68, cb 69, cb 70, cb 71, cb 72, cb 73, cb 74, cb 75, cb 76, cb 77, cb 78, cb 79, cb 80])) (P' := (fun cb => [cb 0, cb 1, cb 2, cb 3, cb 4, ⟨ver, false, .rows 3 (y7.map E_api_Rat)⟩, cb 6, cb 7, cb 8, cb 9, cb 10, cb 11, cb 12, cb 13, cb 14, cb 15, cb 16, cb 17, cb 18, cb 19, cb 20, cb 21, cb 22, cb 23, cb 24, cb 25, cb 26, cb 27, cb 28, cb 29, cb 30, cb 31, cb 32, cb 33, cb 34, cb 35, cb 36, cb 37, cb 38, cb 39, cb 40, cb 41, cb 42, cb 43, cb 44, cb 45, cb 46, cb 47, cb 48, cb 49, cb 50, cb 51, cb 52, cb 53, cb 54, cb 55, cb 56, cb 57, cb 58, cb 59, cb 60, cb 61, cb 62, cb 63, cb 64, cb 65, cb 66, cb 67, cb 68, cb 69, cb 70, cb 71, cb 72, cb 73, cb 74, cb 75, cb 76, cb 77, cb 78, cb 79, cb 80])) (by kernel_rfl) (by kernel_rfl) (by kernel_rfl) (fun cb => hc8 cb _ _ ln_5) (fun rl9 => ?_)
    replace H := H rl9
    refine W.adv 3 ?_
    exact W.to_loop (P := slices_stableCmpFunc_api_Rat__L1_l2_s cb ver rl9 x1 x6 y7 n5) (H _ ln11) (by kernel_rfl)
theorem slices_stableCmpFunc_api_Rat__L1_l1_go {cb : Nat → Blk} {ver : Nat} {rl : List Blk} {x1 : Int} {x6 : Int} {x7 : Int} {x8 : Int} {r5 : List T_api_Rat} {ys : List T_api_Rat} (H : False) : slices_stableCmpFunc_api_Rat__L1_l1 cb ver rl x1 x6 x7 x8 r5 ys := by
  intro n5 ln_5 j jb vs
  refine W.adv 1 ?_
  exact H.elim
theorem slices_stableCmpFunc_api_Rat__L1_l2_go {cb : Nat → Blk} {ver : Nat} {rl : List Blk} {x1 : Int} {x6 : Int} {r5 : List T_api_Rat} {ys : List T_api_Rat} (H : ((x6 < x1 ∧ (slices_stableCmpFunc_api_Rat__L1_l3 cb ver rl x1 x6 0 (wi (2 * x6)) r5 ys)) ∨ (¬ x6 < x1 ∧ (ys = r5)))) : slices_stableCmpFunc_api_Rat__L1_l2 cb ver rl x1 x6 r5 ys := by
  intro n5 ln_5 j jb vs
  refine W.adv 1 ?_
  refine W.adv 8 ?_
  rcases H with ⟨h13, H⟩ | ⟨h13, H⟩
  · refine W.cond true (w := (decide (x6 < x1))) (by kernel_rfl) (decide_eq_true h13) ?_
    refine W.adv 13 ?_
    exact W.to_loop (P := slices_stableCmpFunc_api_Rat__L1_l3_s cb ver rl x1 x6 0 (wi (2 * x6)) r5 n5) (H _ ln_5) (by kernel_rfl)
  · refine W.cond false (w := (decide (x6 < x1))) (by kernel_rfl) (decide_eq_false h13) ?_
    refine W.adv 4 ?_
    exact W.fin (x := .normal) (by kernel_rfl) (SAnsL.any (d0 := (.tuple [])) (h0 := [cb 0, cb 1, cb 2, cb 3, cb 4, ⟨ver, false, .rows 3 (r5.map E_api_Rat)⟩, cb 6, cb 7, cb 8, cb 9, cb 10, cb 11, cb 12, cb 13, cb 14, cb 15, cb 16, cb 17]) (by kernel_rfl) rfl (by kernel_rfl) (by kernel_rfl) (by rw [H]))
theorem slices_stableCmpFunc_api_Rat__L1_l3_go {cb : Nat → Blk} {ver : Nat} {rl : List Blk} {x1 : Int} {x6 : Int} {x7 : Int} {x8 : Int} {r5 : List T_api_Rat} {ys : List T_api_Rat} (H : ((x8 ≤ x1 ∧ (slices_symMergeCmpFunc_api_Rat__v0_R r5 x7 (wi (x7 + x6)) x8 ∧ (slices_stableCmpFunc_api_Rat__L1_l3 cb ver rl x1 x6 x8 (wi (x8 + (wi (2 * x6)))) r5 ys))) ∨ (¬ x8 ≤ x1 ∧ (((wi (x7 + x6)) < x1 ∧ (slices_symMergeCmpFunc_api_Rat__v0_R r5 x7 (wi (x7 + x6)) x1 ∧ (slices_stableCmpFunc_api_Rat__L1_l2 cb ver rl x1 (wi (x6 * 2)) r5 ys))) ∨ (¬ (wi (x7 + x6)) < x1 ∧ (slices_stableCmpFunc_api_Rat__L1_l2 cb ver rl x1 (wi (x6 * 2)) r5 ys)))))) : slices_stableCmpFunc_api_Rat__L1_l3 cb ver rl x1 x6 x7 x8 r5 ys := by
  intro n5 ln_5 j jb vs
  refine W.adv 1 ?_
  refine W.adv 8 ?_
  rcases H with ⟨h14, H⟩ | ⟨h14, H⟩
  · refine W.cond true (w := (decide (x8 ≤ x1))) (by kernel_rfl) (decide_eq_true h14) ?_
    refine W.adv 12 ?_
    obtain ⟨hc16, H⟩ := H
    refine W.callR (g := 68) (ds := [.sref 5 ver 3 0 n5, .int .i64 x7, (.int .i64 (wi (x7 + x6))), .int .i64 x8, .fn 18 [] []]) (es := [(.list 3 (r5.map E_api_Rat)), .int .i64 x7, (.int .i64 (wi (x7 + x6))), .int .i64 x8, .fn 18 [] []]) (r := (.tuple [])) (by kernel_rfl) (rf_cons (rf_fullE (enc := E_api_Rat) E_api_Rat_t (b := 5) (v := ver) (w := ver) (fz := false) (xs := r5) (by kernel_rfl) rfl ln_5) (rf_cons (by kernel_rfl) (rf_cons (by kernel_rfl) (rf_cons (by kernel_rfl) (rf_cons (by kernel_rfl) rf_nil))))) (Ic.args hc16 (by kernel_rfl)) (by kernel_rfl) ?_
    refine W.adv 17 ?_
    exact W.to_loop (P := slices_stableCmpFunc_api_Rat__L1_l3_s cb ver rl x1 x6 x8 (wi (x8 + (wi (2 * x6)))) r5 n5) (H _ ln_5) (by kernel_rfl)
  · refine W.cond false (w := (decide (x8 ≤ x1))) (by kernel_rfl) (decide_eq_false h14) ?_
    refine W.adv 21 ?_
    rcases H with ⟨h17, H⟩ | ⟨h17, H⟩
    · refine W.cond true (w := (decide ((wi (x7 + x6)) < x1))) (by kernel_rfl) (decide_eq_true h17) ?_
      refine W.adv 6 ?_
      obtain ⟨hc19, H⟩ := H
      refine W.callR (g := 68) (ds := [.sref 5 ver 3 0 n5, .int .i64 x7, (.int .i64 (wi (x7 + x6))), .int .i64 x1, .fn 18 [] []]) (es := [(.list 3 (r5.map E_api_Rat)), .int .i64 x7, (.int .i64 (wi (x7 + x6))), .int .i64 x1, .fn 18 [] []]) (r := (.tuple [])) (by kernel_rfl) (rf_cons (rf_fullE (enc := E_api_Rat) E_api_Rat_t (b := 5) (v := ver) (w := ver) (fz := false) (xs := r5) (by kernel_rfl) rfl ln_5) (rf_cons (by kernel_rfl) (rf_cons (by kernel_rfl) (rf_cons (by kernel_rfl) (rf_cons (by kernel_rfl) rf_nil))))) (Ic.args hc19 (by kernel_rfl)) (by kernel_rfl) ?_
      refine W.adv 9 ?_
      exact W.to_loop (P := slices_stableCmpFunc_api_Rat__L1_l2_s cb ver rl x1 (wi (x6 * 2)) r5 n5) (H _ ln_5) (by kernel_rfl)
    · refine W.cond false (w := (decide ((wi (x7 + x6)) < x1))) (by kernel_rfl) (decide_eq_false h17) ?_
      refine W.adv 9 ?_
      exact W.to_loop (P := slices_stableCmpFunc_api_Rat__L1_l2_s cb ver rl x1 (wi (x6 * 2)) r5 n5) (H _ ln_5) (by kernel_rfl)
theorem slices_stableCmpFunc_api_Rat__L1_go {xs : List T_api_Rat} {a1 : Int} {ys : List T_api_Rat} (H : ∀ (cb : Nat → Blk) (ver  : Nat), (slices_stableCmpFunc_api_Rat__L1_l0 cb ver a1 20 0 20 xs ys)) : slices_stableCmpFunc_api_Rat__L1_R xs a1 ys := by
  intro cb ver  n ln
  replace H := H cb ver 
  refine W.scL (n := 18) Tryz.func41 (by kernel_rfl) (by kernel_rfl) (by kernel_rfl) (by kernel_rfl) ?_
  refine W.adv 14 ?_
  exact W.to_loop (P := slices_stableCmpFunc_api_Rat__L1_l0_s cb ver a1 20 0 20 xs n) (H _ ln) (by kernel_rfl)
/-! ### slices.insertionSortCmpFunc[trivium/api.Rat], on its caller's rows -/
noncomputable def slices_insertionSortCmpFunc_api_Rat__L1_l0_s (cb : Nat → Blk) (ver : Nat) (x1 : Int) (x2 : Int) (x8 : Int) (r5 : List T_api_Rat) (n5 : Nat) (j : Nat → D) (jb : Nat → Blk) (vs : Nat → Nat) : Cf := cfAt Tryz.f67 [1, 0] ⟨[.sref 5 ver 3 0 n5, .int .i64 x1, .int .i64 x2, .fn 18 [] [], j 4, j 5, j 6, j 7, .int .i64 x8, j 9, j 10, j 11, j 12, j 13, j 14, j 15, j 16, j 17, j 18, j 19, j 20, j 21, j 22, j 23, j 24, j 25, j 26, j 27, j 28, j 29, j 30, j 31, j 32, j 33, j 34, j 35, j 36, j 37, j 38, j 39, j 40, j 41, j 42, j 43, j 44, j 45, j 46, j 47, j 48, j 49, j 50, j 51, j 52], [cb 0, cb 1, cb 2, cb 3, cb 4, ⟨ver, false, .rows 3 (r5.map E_api_Rat)⟩, cb 6, cb 7, cb 8, cb 9, cb 10, cb 11, cb 12, cb 13, cb 14, cb 15, cb 16, cb 17, cb 18, cb 19, cb 20, cb 21, cb 22, cb 23, cb 24, cb 25, cb 26, cb 27, cb 28, cb 29, cb 30, cb 31, cb 32, cb 33, cb 34, cb 35, cb 36, cb 37, cb 38, cb 39, cb 40, cb 41, cb 42, cb 43, cb 44, cb 45, cb 46, cb 47, cb 48, cb 49, cb 50, cb 51, cb 52, cb 53, cb 54, cb 55, cb 56, cb 57, cb 58, cb 59, cb 60, cb 61, cb 62, cb 63, cb 64, cb 65, cb 66, cb 67, cb 68, cb 69, cb 70, cb 71, cb 72, cb 73, cb 74, cb 75, cb 76, cb 77, cb 78, cb 79, cb 80, noBlk, noBlk, noBlk, noBlk, noBlk, noBlk, noBlk, noBlk, noBlk, noBlk, noBlk, noBlk, noBlk, noBlk, noBlk, noBlk, noBlk, noBlk, noBlk, noBlk, noBlk, noBlk, noBlk, noBlk, noBlk, noBlk, noBlk, noBlk, noBlk, noBlk, noBlk, noBlk, noBlk, noBlk, noBlk, noBlk, noBlk, noBlk, noBlk, noBlk, noBlk, noBlk, noBlk, noBlk, noBlk, noBlk, noBlk, noBlk, noBlk, noBlk, noBlk, noBlk, noBlk]⟩
def slices_insertionSortCmpFunc_api_Rat__L1_l0 (cb : Nat → Blk) (ver : Nat) (x1 : Int) (x2 : Int) (x8 : Int) (r5 : List T_api_Rat) (ys : List T_api_Rat) : Prop := ∀ n5, n5 = r5.length → ∀ j jb vs, W C F 67 81 (slices_insertionSortCmpFunc_api_Rat__L1_l0_s cb ver x1 x2 x8 r5 n5 j jb vs) (SAnsL C Tryz.f67 81 (.tuple []) [cb 0, cb 1, cb 2, cb 3, cb 4, ⟨ver, false, .rows 3 (ys.map E_api_Rat)⟩, cb 6, cb 7, cb 8, cb 9, cb 10, cb 11, cb 12, cb 13, cb 14, cb 15, cb 16, cb 17, cb 18, cb 19, cb 20, cb 21, cb 22, cb 23, cb 24, cb 25, cb 26, cb 27, cb 28, cb 29, cb 30, cb 31, cb 32, cb 33, cb 34, cb 35, cb 36, cb 37, cb 38, cb 39, cb 40, cb 41, cb 42, cb 43, cb 44, cb 45, cb 46, cb 47, cb 48, cb 49, cb 50, cb 51, cb 52, cb 53, cb 54, cb 55, cb 56, cb 57, cb 58, cb 59, cb 60, cb 61, cb 62, cb 63, cb 64, cb 65, cb 66, cb 67, cb 68, cb 69, cb 70, cb 71, cb 72, cb 73, cb 74, cb 75, cb 76, cb 77, cb 78, cb 79, cb 80])
noncomputable def slices_insertionSortCmpFunc_api_Rat__L1_l1_s (cb : Nat → Blk) (ver : Nat) (x1 : Int) (x2 : Int) (x8 : Int) (x9 : Int) (r5 : List T_api_Rat) (n5 : Nat) (j : Nat → D) (jb : Nat → Blk) (vs : Nat → Nat) : Cf := cfAt Tryz.f67 [1, 0, 0, 1, 0, 0, 1, 0] ⟨[.sref 5 ver 3 0 n5, .int .i64 x1, .int .i64 x2, .fn 18 [] [], j 4, j 5, j 6, j 7, .int .i64 x8, .int .i64 x9, j 10, j 11, j 12, j 13, j 14, j 15, j 16, j 17, j 18, j 19, j 20, j 21, j 22, j 23, j 24, j 25, j 26, j 27, j 28, j 29, j 30, j 31, j 32, j 33, j 34, j 35, j 36, j 37, j 38, j 39, j 40, j 41, j 42, j 43, j 44, j 45, j 46, j 47, j 48, j 49, j 50, j 51, j 52], [cb 0, cb 1, cb 2, cb 3, cb 4, ⟨ver, false, .rows 3 (r5.map E_api_Rat)⟩, cb 6, cb 7, cb 8, cb 9, cb 10, cb 11, cb 12, cb 13, cb 14, cb 15, cb 16, cb 17, cb 18, cb 19, cb 20, cb 21, cb 22, cb 23, cb 24, cb 25, cb 26, cb 27, cb 28, cb 29, cb 30, cb 31, cb 32, cb 33, cb 34, cb 35, cb 36, cb 37, cb 38, cb 39, cb 40, cb 41, cb 42, cb 43, cb 44, cb 45, cb 46, cb 47, cb 48, cb 49, cb 50, cb 51, cb 52, cb 53, cb 54, cb 55, cb 56, cb 57, cb 58, cb 59, cb 60, cb 61, cb 62, cb 63, cb 64, cb 65, cb 66, cb 67, cb 68, cb 69, cb 70, cb 71, cb 72, cb 73, cb 74, cb 75, cb 76, cb 77, cb 78, cb 79, cb 80, noBlk, noBlk, noBlk, noBlk, noBlk, noBlk, noBlk, noBlk, noBlk, noBlk, noBlk, noBlk, noBlk, noBlk, noBlk, noBlk, noBlk, noBlk, noBlk, noBlk, noBlk, noBlk, noBlk, noBlk, noBlk, noBlk, noBlk, noBlk, noBlk, noBlk, noBlk, noBlk, noBlk, noBlk, noBlk, noBlk, noBlk, noBlk, noBlk, noBlk, noBlk, noBlk, noBlk, noBlk, noBlk, noBlk, noBlk, noBlk, noBlk, noBlk, noBlk, noBlk, noBlk]⟩
def slices_insertionSortCmpFunc_api_Rat__L1_l1 (cb : Nat → Blk) (ver : Nat) (x1 : Int) (x2 : Int) (x8 : Int) (x9 : Int) (r5 : List T_api_Rat) (ys : List T_api_Rat) : Prop := ∀ n5, n5 = r5.length → ∀ j jb vs, W C F 67 81 (slices_insertionSortCmpFunc_api_Rat__L1_l1_s cb ver x1 x2 x8 x9 r5 n5 j jb vs) (SAnsL C Tryz.f67 81 (.tuple []) [cb 0, cb 1, cb 2, cb 3, cb 4, ⟨ver, false, .rows 3 (ys.map E_api_Rat)⟩, cb 6, cb 7, cb 8, cb 9, cb 10, cb 11, cb 12, cb 13, cb 14, cb 15, cb 16, cb 17, cb 18, cb 19, cb 20, cb 21, cb 22, cb 23, cb 24, cb 25, cb 26, cb 27, cb 28, cb 29, cb 30, cb 31, cb 32, cb 33, cb 34, cb 35, cb 36, cb 37, cb 38, cb 39, cb 40, cb 41, cb 42, cb 43, cb 44, cb 45, cb 46, cb 47, cb 48, cb 49, cb 50, cb 51, cb 52, cb 53, cb 54, cb 55, cb 56, cb 57, cb 58, cb 59, cb 60, cb 61, cb 62, cb 63, cb 64, cb 65, cb 66, cb 67, cb 68, cb 69, cb 70, cb 71, cb 72, cb 73, cb 74, cb 75, cb 76, cb 77, cb 78, cb 79, cb 80])
theorem slices_insertionSortCmpFunc_api_Rat__L1_l0_go {cb : Nat → Blk} {ver : Nat} {x1 : Int} {x2 : Int} {x8 : Int} {r5 : List T_api_Rat} {ys : List T_api_Rat} (H : ((x8 < x2 ∧ (slices_insertionSortCmpFunc_api_Rat__L1_l1 cb ver x1 x2 x8 x8 r5 ys)) ∨ (¬ x8 < x2 ∧ (ys = r5)))) : slices_insertionSortCmpFunc_api_Rat__L1_l0 cb ver x1 x2 x8 r5 ys := by
  intro n5 ln_5 j jb vs
  refine W.adv 1 ?_
  refine W.adv 8 ?_
  rcases H with ⟨h1, H⟩ | ⟨h1, H⟩
  · refine W.cond true (w := (decide (x8 < x2))) (by kernel_rfl) (decide_eq_true h1) ?_
    refine W.adv 11 ?_
    exact W.to_loop (P := slices_insertionSortCmpFunc_api_Rat__L1_l1_s cb ver x1 x2 x8 x8 r5 n5) (H _ ln_5) (by kernel_rfl)
  · refine W.cond false (w := (decide (x8 < x2))) (by kernel_rfl) (decide_eq_false h1) ?_
    refine W.adv 4 ?_
    exact W.fin (x := .normal) (by kernel_rfl) (SAnsL.any (d0 := (.tuple [])) (h0 := [cb 0, cb 1, cb 2, cb 3, cb 4, ⟨ver, false, .rows 3 (r5.map E_api_Rat)⟩, cb 6, cb 7, cb 8, cb 9, cb 10, cb 11, cb 12, cb 13, cb 14, cb 15, cb 16, cb 17, cb 18, cb 19, cb 20, cb 21, cb 22, cb 23, cb 24, cb 25, cb 26, cb 27, cb 28, cb 29, cb 30, cb 31, cb 32, cb 33, cb 34, cb 35, cb 36, cb 37, cb 38, cb 39, cb 40, cb 41, cb 42, cb 43, cb 44, cb 45, cb 46, cb 47, cb 48, cb 49, cb 50, cb 51, cb 52, cb 53, cb 54, cb 55, cb 56, cb 57, cb 58, cb 59, cb 60, cb 61, cb 62, cb 63, cb 64, cb 65, cb 66, cb 67, cb 68, cb 69, cb 70, cb 71, cb 72, cb 73, cb 74, cb 75, cb 76, cb 77, cb 78, cb 79, cb 80]) (by kernel_rfl) rfl (by kernel_rfl) (by kernel_rfl) (by rw [H]))
theorem slices_insertionSortCmpFunc_api_Rat__L1_l1_go {cb : Nat → Blk} {ver : Nat} {x1 : Int} {x2 : Int} {x8 : Int} {x9 : Int} {r5 : List T_api_Rat} {ys : List T_api_Rat} (H : ((x1 < x9 ∧ (0 ≤ x9 ∧ (x9 < (r5.length : Int) ∧ (∃ e5 : Bool, (∃ e6 : List Int, (∃ e7 : List Int, (r5.getD (x9).toNat (false, [], []) = (e5, e6, e7) ∧ (0 ≤ (wi (x9 - 1)) ∧ ((wi (x9 - 1)) < (r5.length : Int) ∧ (∃ e11 : Bool, (∃ e12 : List Int, (∃ e13 : List Int, (r5.getD (wi (x9 - 1)).toNat (false, [], []) = (e11, e12, e13) ∧ (∃ c15 : Int, (rat_Cmp_R e5 e6 e7 e11 e12 e13 c15 ∧ ((c15 < 0 ∧ (∃ e18 : Bool, (∃ e19 : List Int, (∃ e20 : List Int, (r5.getD (wi (x9 - 1)).toNat (false, [], []) = (e18, e19, e20) ∧ (∃ e22 : Bool, (∃ e23 : List Int, (∃ e24 : List Int, (r5.getD (x9).toNat (false, [], []) = (e22, e23, e24) ∧ (∃ y26, y26 = r5.set (x9).toNat (e18, e19, e20) ∧ ((wi (x9 - 1)) < (y26.length : Int) ∧ (∃ y30, y30 = y26.set (wi (x9 - 1)).toNat (e22, e23, e24) ∧ (slices_insertionSortCmpFunc_api_Rat__L1_l1 cb ver x1 x2 x8 (wi (x9 - 1)) y30 ys))))))))))))) ∨ (¬ c15 < 0 ∧ (slices_insertionSortCmpFunc_api_Rat__L1_l0 cb ver x1 x2 (wi (x8 + 1)) r5 ys)))))))))))))))))) ∨ (¬ x1 < x9 ∧ (slices_insertionSortCmpFunc_api_Rat__L1_l0 cb ver x1 x2 (wi (x8 + 1)) r5 ys)))) : slices_insertionSortCmpFunc_api_Rat__L1_l1 cb ver x1 x2 x8 x9 r5 ys := by
  intro n5 ln_5 j jb vs
  refine W.adv 1 ?_
  refine W.adv 7 ?_
  rcases H with ⟨h2, H⟩ | ⟨h2, H⟩
  · refine W.guard true (w := ((decide (x1 < x9)) == true)) (by kernel_rfl) (congrArg (fun b => b == true) (decide_eq_true h2)) ?_
    refine W.adv 1 ?_
    refine W.guard true (w := ((decide (x1 < x9)) == true)) (by kernel_rfl) (congrArg (fun b => b == true) (decide_eq_true h2)) ?_
    refine W.adv 1 ?_
    refine W.guard true (w := ((decide (x1 < x9)) == true)) (by kernel_rfl) (congrArg (fun b => b == true) (decide_eq_true h2)) ?_
    refine W.adv 1 ?_
    refine W.guard true (w := ((decide (x1 < x9)) == true)) (by kernel_rfl) (congrArg (fun b => b == true) (decide_eq_true h2)) ?_
    obtain ⟨h3, h4, H⟩ := H
    refine W.opS (OpIs.ixR (k' := .i64) (b := 5) (v := ver) (sz := 3) (len := n5) (i := x9) (by kernel_rfl) h3 (by rw [ln_5]; exact h4)) ?_
    refine W.guard true (w := ((decide (x1 < x9)) == true)) (by kernel_rfl) (congrArg (fun b => b == true) (decide_eq_true h2)) ?_
    obtain ⟨e5, e6, e7, he8, H⟩ := H
    refine W.opS (OpIs.ldE (enc := E_api_Rat) (b := 5) (v := ver) (i := (x9).toNat) (off := 0) (w := ver) (n := 3) (s := 3) (fz := false) (a := true) (L := r5) (d0 := (false, [], [])) (x := (e5, e6, e7)) (r := (.agg [.bool e5, .ints .u64 e6, .ints .u64 e7])) (by kernel_rfl) rfl (by omega) he8 (by kernel_rfl)) ?_
    refine W.guard true (w := ((decide (x1 < x9)) == true)) (by kernel_rfl) (congrArg (fun b => b == true) (decide_eq_true h2)) ?_
    refine W.adv 1 ?_
    refine W.guard true (w := ((decide (x1 < x9)) == true)) (by kernel_rfl) (congrArg (fun b => b == true) (decide_eq_true h2)) ?_
    refine W.adv 1 ?_
    refine W.guard true (w := ((decide (x1 < x9)) == true)) (by kernel_rfl) (congrArg (fun b => b == true) (decide_eq_true h2)) ?_
    refine W.adv 1 ?_
    refine W.guard true (w := ((decide (x1 < x9)) == true)) (by kernel_rfl) (congrArg (fun b => b == true) (decide_eq_true h2)) ?_
    obtain ⟨h9, h10, H⟩ := H
    refine W.opS (OpIs.ixR (k' := .i64) (b := 5) (v := ver) (sz := 3) (len := n5) (i := (wi (x9 - 1))) (by kernel_rfl) h9 (by rw [ln_5]; exact h10)) ?_
    refine W.guard true (w := ((decide (x1 < x9)) == true)) (by kernel_rfl) (congrArg (fun b => b == true) (decide_eq_true h2)) ?_
    obtain ⟨e11, e12, e13, he14, H⟩ := H
    refine W.opS (OpIs.ldE (enc := E_api_Rat) (b := 5) (v := ver) (i := (wi (x9 - 1)).toNat) (off := 0) (w := ver) (n := 3) (s := 3) (fz := false) (a := true) (L := r5) (d0 := (false, [], [])) (x := (e11, e12, e13)) (r := (.agg [.bool e11, .ints .u64 e12, .ints .u64 e13])) (by kernel_rfl) rfl (by omega) he14 (by kernel_rfl)) ?_
    refine W.guard true (w := ((decide (x1 < x9)) == true)) (by kernel_rfl) (congrArg (fun b => b == true) (decide_eq_true h2)) ?_
    obtain ⟨c15, hc16, H⟩ := H
    refine W.callR (g := 18) (ds := [(.agg [.bool e5, .ints .u64 e6, .ints .u64 e7]), (.agg [.bool e11, .ints .u64 e12, .ints .u64 e13])]) (es := [(.agg [.bool e5, .ints .u64 e6, .ints .u64 e7]), (.agg [.bool e11, .ints .u64 e12, .ints .u64 e13])]) (r := (.int .i64 c15)) (by kernel_rfl) (by kernel_rfl) (Ic.args hc16 (by kernel_rfl)) (by kernel_rfl) ?_
    refine W.guard true (w := ((decide (x1 < x9)) == true)) (by kernel_rfl) (congrArg (fun b => b == true) (decide_eq_true h2)) ?_
    refine W.adv 1 ?_
    refine W.opS (OpIs.pk true (t := (decide (x1 < x9))) (x := (.bool (decide (c15 < 0)))) (y := (.bool false)) (by kernel_rfl) (decide_eq_true h2)) ?_
    refine W.adv 2 ?_
    rcases H with ⟨h17, H⟩ | ⟨h17, H⟩
    · refine W.cond true (w := (decide (c15 < 0))) (by kernel_rfl) (decide_eq_true h17) ?_
      refine W.adv 13 ?_
      refine W.opS (OpIs.ixR (k' := .i64) (b := 5) (v := ver) (sz := 3) (len := n5) (i := (wi (x9 - 1))) (by kernel_rfl) h9 (by rw [ln_5]; exact h10)) ?_
      obtain ⟨e18, e19, e20, he21, H⟩ := H
      refine W.opS (OpIs.ldE (enc := E_api_Rat) (b := 5) (v := ver) (i := (wi (x9 - 1)).toNat) (off := 0) (w := ver) (n := 3) (s := 3) (fz := false) (a := true) (L := r5) (d0 := (false, [], [])) (x := (e18, e19, e20)) (r := (.agg [.bool e18, .ints .u64 e19, .ints .u64 e20])) (by kernel_rfl) rfl (by omega) he21 (by kernel_rfl)) ?_
      refine W.adv 2 ?_
      refine W.opS (OpIs.ixR (k' := .i64) (b := 5) (v := ver) (sz := 3) (len := n5) (i := x9) (by kernel_rfl) h3 (by rw [ln_5]; exact h4)) ?_
      obtain ⟨e22, e23, e24, he25, H⟩ := H
      refine W.opS (OpIs.ldE (enc := E_api_Rat) (b := 5) (v := ver) (i := (x9).toNat) (off := 0) (w := ver) (n := 3) (s := 3) (fz := false) (a := true) (L := r5) (d0 := (false, [], [])) (x := (e22, e23, e24)) (r := (.agg [.bool e22, .ints .u64 e23, .ints .u64 e24])) (by kernel_rfl) rfl (by omega) he25 (by kernel_rfl)) ?_
      refine W.opS (OpIs.ixR (k' := .i64) (b := 5) (v := ver) (sz := 3) (len := n5) (i := x9) (by kernel_rfl) h3 (by rw [ln_5]; exact h4)) ?_
      obtain ⟨y26, hy27, H⟩ := H
      have ln28 : n5 = y26.length := by rw [hy27, List.length_set]; exact ln_5
      refine W.opH (OpIs.stE (enc := E_api_Rat) (b := 5) (v := ver) (i := (x9).toNat) (off := 0) (w := ver) (n := 3) (s := 3) (L := r5) (d0 := (false, [], [])) (x := (r5.getD (x9).toNat (false, [], []))) (z := (e18, e19, e20)) (y := (.agg [.bool e18, .ints .u64 e19, .ints .u64 e20])) (by kernel_rfl) hy27 rfl (by omega) rfl (by kernel_rfl) (Nat.le_of_ble_eq_true (by kernel_rfl)) (by kernel_rfl) (by kernel_rfl)) ?_
      obtain ⟨h29, H⟩ := H
      refine W.opS (OpIs.ixR (k' := .i64) (b := 5) (v := ver) (sz := 3) (len := n5) (i := (wi (x9 - 1))) (by kernel_rfl) h9 (by rw [ln28]; exact h29)) ?_
      obtain ⟨y30, hy31, H⟩ := H
      have ln32 : n5 = y30.length := by rw [hy31, List.length_set]; exact ln28
      refine W.opH (OpIs.stE (enc := E_api_Rat) (b := 5) (v := ver) (i := (wi (x9 - 1)).toNat) (off := 0) (w := ver) (n := 3) (s := 3) (L := y26) (d0 := (false, [], [])) (x := (y26.getD (wi (x9 - 1)).toNat (false, [], []))) (z := (e22, e23, e24)) (y := (.agg [.bool e22, .ints .u64 e23, .ints .u64 e24])) (by kernel_rfl) hy31 rfl (by omega) rfl (by kernel_rfl) (Nat.le_of_ble_eq_true (by kernel_rfl)) (by kernel_rfl) (by kernel_rfl)) ?_
      refine W.adv 9 ?_
      exact W.to_loop (P := slices_insertionSortCmpFunc_api_Rat__L1_l1_s cb ver x1 x2 x8 (wi (x9 - 1)) y30 n5) (H _ ln32) (by kernel_rfl)
    · refine W.cond false (w := (decide (c15 < 0))) (by kernel_rfl) (decide_eq_false h17) ?_
      refine W.adv 12 ?_
      exact W.to_loop (P := slices_insertionSortCmpFunc_api_Rat__L1_l0_s cb ver x1 x2 (wi (x8 + 1)) r5 n5) (H _ ln_5) (by kernel_rfl)
  · refine W.guard false (w := ((decide (x1 < x9)) == true)) (by kernel_rfl) (congrArg (fun b => b == true) (decide_eq_false h2)) ?_
    refine W.guard false (w := ((decide (x1 < x9)) == true)) (by kernel_rfl) (congrArg (fun b => b == true) (decide_eq_false h2)) ?_
    refine W.guard false (w := ((decide (x1 < x9)) == true)) (by kernel_rfl) (congrArg (fun b => b == true) (decide_eq_false h2)) ?_
    refine W.guard false (w := ((decide (x1 < x9)) == true)) (by kernel_rfl) (congrArg (fun b => b == true) (decide_eq_false h2)) ?_
    refine W.guard false (w := ((decide (x1 < x9)) == true)) (by kernel_rfl) (congrArg (fun b => b == true) (decide_eq_false h2)) ?_
    refine W.guard false (w := ((decide (x1 < x9)) == true)) (by kernel_rfl) (congrArg (fun b => b == true) (decide_eq_false h2)) ?_
    refine W.guard false (w := ((decide (x1 < x9)) == true)) (by kernel_rfl) (congrArg (fun b => b == true) (decide_eq_false h2)) ?_
    refine W.guard false (w := ((decide (x1 < x9)) == true)) (by kernel_rfl) (congrArg (fun b => b == true) (decide_eq_false h2)) ?_
    refine W.guard false (w := ((decide (x1 < x9)) == true)) (by kernel_rfl) (congrArg (fun b => b == true) (decide_eq_false h2)) ?_
    refine W.guard false (w := ((decide (x1 < x9)) == true)) (by kernel_rfl) (congrArg (fun b => b == true) (decide_eq_false h2)) ?_
    refine W.guard false (w := ((decide (x1 < x9)) == true)) (by kernel_rfl) (congrArg (fun b => b == true) (decide_eq_false h2)) ?_
    refine W.guard false (w := ((decide (x1 < x9)) == true)) (by kernel_rfl) (congrArg (fun b => b == true) (decide_eq_false h2)) ?_
    refine W.opS (OpIs.pk false (t := (decide (x1 < x9))) (x := (.tuple [])) (y := (.bool false)) (by kernel_rfl) (decide_eq_false h2)) ?_
    refine W.adv 15 ?_
    exact W.to_loop (P := slices_insertionSortCmpFunc_api_Rat__L1_l0_s cb ver x1 x2 (wi (x8 + 1)) r5 n5) (H _ ln_5) (by kernel_rfl)
theorem slices_insertionSortCmpFunc_api_Rat__L1_go {xs : List T_api_Rat} {a1 : Int} {a2 : Int} {ys : List T_api_Rat} (H : ∀ (cb : Nat → Blk) (ver  : Nat), (slices_insertionSortCmpFunc_api_Rat__L1_l0 cb ver a1 a2 (wi (a1 + 1)) xs ys)) : slices_insertionSortCmpFunc_api_Rat__L1_R xs a1 a2 ys := by
  intro cb ver  n ln
  replace H := H cb ver 
  refine W.scL (n := 81) Tryz.func67 (by kernel_rfl) (by kernel_rfl) (by kernel_rfl) (by kernel_rfl) ?_
  refine W.adv 8 ?_
  exact W.to_loop (P := slices_insertionSortCmpFunc_api_Rat__L1_l0_s cb ver a1 a2 (wi (a1 + 1)) xs n) (H _ ln) (by kernel_rfl)
end Go.Proofs.YtmdgdgfhgaeddaaGreatA
