/- Walks through the functions: what makes each relation true. -/
import Derived.Test.YteepbjndbemcdaaW0
set_option linter.unusedVariables false
set_option maxRecDepth 100000
namespace Go.Proofs.YteepbjndbemcdaaA
open Go Go.Proofs
/-! ### trivium/triviumlaw10.FoldShares -/
noncomputable def law10_FoldShares_l0_s (x5 : List T_api_Rat) (x6 : List T_ref08_Q) (x7 : List T_api_Rat) (x9 : List T_ref08_Q) (x10 : Int) (x11 : Int) (r22 : List Int) (n22 : Nat) (j : Nat → D) (jb : Nat → Blk) (vs : Nat → Nat) : Cf := cfAt Try.f4 [1, 1, 1, 1, 1, 1, 0, 1, 0] ⟨[(.sref 22 1 1 0 n22), (j 1), (j 2), (j 3), (j 4), (.list 3 (x5.map E_api_Rat)), (.list 3 (x6.map E_ref08_Q)), (.list 3 (x7.map E_api_Rat)), (j 8), (.list 3 (x9.map E_ref08_Q)), (.int .i64 x10), (.int .i64 x11), (j 12), (j 13), (j 14), (j 15), (j 16), (j 17), (j 18), (j 19), (j 20), (j 21), (j 22), (j 23), (j 24), (j 25), (j 26), (j 27), (j 28), (j 29), (j 30), (j 31), (j 32), (j 33), (j 34), (j 35), (j 36), (j 37), (j 38), (j 39), (j 40), (j 41), (j 42), (j 43), (j 44), (j 45), (j 46), (j 47), (j 48), (j 49), (j 50), (j 51), (j 52), (j 53), (j 54), (j 55), (j 56), (j 57), (j 58), (j 59), (j 60), (j 61), (j 62), (j 63), (j 64), (j 65), (j 66), (j 67), (j 68), (j 69), (j 70), (j 71), (j 72), (j 73), (j 74), (j 75), (j 76), (j 77), (j 78), (j 79), (j 80), (j 81), (j 82), (j 83), (j 84), (j 85), (j 86), (j 87), (j 88), (j 89), (j 90), (j 91), (j 92), (j 93), (j 94), (j 95), (j 96), (j 97), (j 98), (j 99), (j 100), (j 101), (j 102), (j 103), (j 104), (j 105), (j 106), (j 107), (j 108), (j 109), (j 110), (j 111), (j 112), (j 113), (j 114), (j 115), (j 116), (j 117), (j 118), (j 119), (j 120), (j 121), (j 122), (j 123), (j 124), (j 125), (j 126)], [(jb 0), (jb 1), (jb 2), (jb 3), (jb 4), (jb 5), (jb 6), (jb 7), (jb 8), (jb 9), (jb 10), (jb 11), (jb 12), (jb 13), (jb 14), (jb 15), (jb 16), (jb 17), (jb 18), (jb 19), (jb 20), (jb 21), ⟨1, true, .ints .i64 r22⟩, (jb 23), (jb 24), (jb 25), (jb 26), (jb 27), (jb 28), (jb 29), (jb 30), (jb 31), (jb 32), (jb 33), (jb 34), (jb 35), (jb 36), (jb 37), (jb 38), (jb 39), (jb 40), (jb 41), (jb 42), (jb 43), (jb 44), (jb 45), (jb 46), (jb 47), (jb 48), (jb 49), (jb 50), (jb 51), (jb 52), (jb 53), (jb 54), (jb 55), (jb 56), (jb 57), (jb 58), (jb 59), (jb 60), (jb 61), (jb 62), (jb 63), (jb 64), (jb 65), (jb 66), (jb 67), (jb 68), (jb 69), (jb 70), (jb 71), (jb 72), (jb 73), (jb 74), (jb 75), (jb 76), (jb 77), (jb 78), (jb 79), (jb 80), (jb 81), (jb 82), (jb 83), (jb 84), (jb 85), (jb 86), (jb 87), (jb 88), (jb 89), (jb 90), (jb 91), (jb 92), (jb 93), (jb 94), (jb 95), (jb 96), (jb 97), (jb 98), (jb 99), (jb 100), (jb 101), (jb 102), (jb 103), (jb 104), (jb 105), (jb 106), (jb 107), (jb 108), (jb 109), (jb 110), (jb 111), (jb 112), (jb 113), (jb 114), (jb 115), (jb 116), (jb 117), (jb 118), (jb 119), (jb 120), (jb 121), (jb 122), (jb 123), (jb 124), (jb 125), (jb 126)]⟩
def law10_FoldShares_l0 (x5 : List T_api_Rat) (x6 : List T_ref08_Q) (x7 : List T_api_Rat) (x9 : List T_ref08_Q) (x10 : Int) (x11 : Int) (r22 : List Int) (z : Bool) : Prop := ∀ n22, n22 = r22.length → ∀ j jb vs, W C F 4 0 (law10_FoldShares_l0_s x5 x6 x7 x9 x10 x11 r22 n22 j jb vs) (LAns C Try.f4 z)
noncomputable def law10_FoldShares_l1_s (x6 : List T_ref08_Q) (x9 : List T_ref08_Q) (x13 : Int) (x15 : Int) (r12_0_0 : Bool) (r12_0_1 : List Int) (r12_0_2 : List Int) (r14_0_0 : Bool) (r14_0_1 : List Int) (r14_0_2 : List Int) (j : Nat → D) (jb : Nat → Blk) (vs : Nat → Nat) : Cf := cfAt Try.f4 [1, 1, 1, 1, 1, 1, 1, 1, 1, 1, 1, 0, 1, 0] ⟨[(j 0), (j 1), (j 2), (j 3), (j 4), (j 5), (.list 3 (x6.map E_ref08_Q)), (j 7), (j 8), (.list 3 (x9.map E_ref08_Q)), (j 10), (j 11), (.pref 12 ((vs 12) + 1) 0 0), (.int .i64 x13), (.pref 14 ((vs 14) + 1) 0 0), (.int .i64 x15), (j 16), (j 17), (j 18), (j 19), (j 20), (j 21), (j 22), (j 23), (j 24), (j 25), (j 26), (j 27), (j 28), (j 29), (j 30), (j 31), (j 32), (j 33), (j 34), (j 35), (j 36), (j 37), (j 38), (j 39), (j 40), (j 41), (j 42), (j 43), (j 44), (j 45), (j 46), (j 47), (j 48), (j 49), (j 50), (j 51), (j 52), (j 53), (j 54), (j 55), (j 56), (j 57), (j 58), (j 59), (j 60), (j 61), (j 62), (j 63), (j 64), (j 65), (j 66), (j 67), (j 68), (j 69), (j 70), (j 71), (j 72), (j 73), (j 74), (j 75), (j 76), (j 77), (j 78), (j 79), (j 80), (j 81), (j 82), (j 83), (j 84), (j 85), (j 86), (j 87), (j 88), (j 89), (j 90), (j 91), (j 92), (j 93), (j 94), (j 95), (j 96), (j 97), (j 98), (j 99), (j 100), (j 101), (j 102), (j 103), (j 104), (j 105), (j 106), (j 107), (j 108), (j 109), (j 110), (j 111), (j 112), (j 113), (j 114), (j 115), (j 116), (j 117), (j 118), (j 119), (j 120), (j 121), (j 122), (j 123), (j 124), (j 125), (j 126)], [(jb 0), (jb 1), (jb 2), (jb 3), (jb 4), (jb 5), (jb 6), (jb 7), (jb 8), (jb 9), (jb 10), (jb 11), ⟨((vs 12) + 1), false, .rows 3 [(.agg [(.bool r12_0_0), (.ints .u64 r12_0_1), (.ints .u64 r12_0_2)])]⟩, (jb 13), ⟨((vs 14) + 1), false, .rows 3 [(.agg [(.bool r14_0_0), (.ints .i64 r14_0_1), (.ints .i64 r14_0_2)])]⟩, (jb 15), (jb 16), (jb 17), (jb 18), (jb 19), (jb 20), (jb 21), (jb 22), (jb 23), (jb 24), (jb 25), (jb 26), (jb 27), (jb 28), (jb 29), (jb 30), (jb 31), (jb 32), (jb 33), (jb 34), (jb 35), (jb 36), (jb 37), (jb 38), (jb 39), (jb 40), (jb 41), (jb 42), (jb 43), (jb 44), (jb 45), (jb 46), (jb 47), (jb 48), (jb 49), (jb 50), (jb 51), (jb 52), (jb 53), (jb 54), (jb 55), (jb 56), (jb 57), (jb 58), (jb 59), (jb 60), (jb 61), (jb 62), (jb 63), (jb 64), (jb 65), (jb 66), (jb 67), (jb 68), (jb 69), (jb 70), (jb 71), (jb 72), (jb 73), (jb 74), (jb 75), (jb 76), (jb 77), (jb 78), (jb 79), (jb 80), (jb 81), (jb 82), (jb 83), (jb 84), (jb 85), (jb 86), (jb 87), (jb 88), (jb 89), (jb 90), (jb 91), (jb 92), (jb 93), (jb 94), (jb 95), (jb 96), (jb 97), (jb 98), (jb 99), (jb 100), (jb 101), (jb 102), (jb 103), (jb 104), (jb 105), (jb 106), (jb 107), (jb 108), (jb 109), (jb 110), (jb 111), (jb 112), (jb 113), (jb 114), (jb 115), (jb 116), (jb 117), (jb 118), (jb 119), (jb 120), (jb 121), (jb 122), (jb 123), (jb 124), (jb 125), (jb 126)]⟩
def law10_FoldShares_l1 (x6 : List T_ref08_Q) (x9 : List T_ref08_Q) (x13 : Int) (x15 : Int) (r12_0_0 : Bool) (r12_0_1 : List Int) (r12_0_2 : List Int) (r14_0_0 : Bool) (r14_0_1 : List Int) (r14_0_2 : List Int) (z : Bool) : Prop := ∀ j jb vs, W C F 4 0 (law10_FoldShares_l1_s x6 x9 x13 x15 r12_0_0 r12_0_1 r12_0_2 r14_0_0 r14_0_1 r14_0_2  j jb vs) (LAns C Try.f4 z)
theorem law10_FoldShares_l0_go {x5 : List T_api_Rat} {x6 : List T_ref08_Q} {x7 : List T_api_Rat} {x9 : List T_ref08_Q} {x10 : Int} {x11 : Int} {r22 : List Int} {z : Bool} (H : ((x11 < (x7.length : Int) ∧ (0 ≤ x11 ∧ (∃ e21 : Bool, (∃ e22 : List Int, (∃ e23 : List Int, (x7.getD (x11).toNat (false, [], []) = (e21, e22, e23) ∧ (x11 < (x9.length : Int) ∧ (∃ e26 : Bool, (∃ e27 : List Int, (∃ e28 : List Int, (x9.getD (x11).toNat (false, [], []) = (e26, e27, e28) ∧ (∃ c30_0 : Bool, (∃ c30_1 : List Int, (∃ c30_2 : List Int, (ref08_Back_R e26 e27 e28 c30_0 c30_1 c30_2 ∧ (∃ c32 : Bool, (ref08_Same_R e21 e22 e23 c30_0 c30_1 c30_2 c32 ∧ ((c32 = true ∧ (law10_FoldShares_l0 x5 x6 x7 x9 x10 (wi (x11 + 1)) r22 z)) ∨ (¬ c32 = true ∧ (z = false)))))))))))))))))))) ∨ (¬ x11 < (x7.length : Int) ∧ ((r22.length + 192) * (8 + 1) ≤ 70368744177664 ∧ (∃ y35, y35 = r22 ∧ (∃ c39t0_0 : Bool, (∃ c39t0_1 : List Int, (∃ c39t0_2 : List Int, (∃ c39t1 : Int, (fold_Mean_R y35 x5 c39t0_0 c39t0_1 c39t0_2 c39t1 ∧ ((0 < (r22.length : Int) ∧ (((r22.length : Int) = (x6.length : Int) ∧ ((x10 = 0 ∧ (∃ c44_0 : Bool, (∃ c44_1 : List Int, (∃ c44_2 : List Int, (ref08_Num_R 0 1 c44_0 c44_1 c44_2 ∧ (law10_FoldShares_l1 x6 x9 c39t1 0 c39t0_0 c39t0_1 c39t0_2 c44_0 c44_1 c44_2 z)))))) ∨ (¬ x10 = 0 ∧ ((c39t1 = x10 ∧ (∃ c47 : Bool, (law10_works_R c47 ∧ (z = c47)))) ∨ (¬ c39t1 = x10 ∧ (z = false)))))) ∨ (¬ (r22.length : Int) = (x6.length : Int) ∧ ((c39t1 = 2 ∧ (∃ c50 : Bool, (law10_works_R c50 ∧ (z = c50)))) ∨ (¬ c39t1 = 2 ∧ (z = false)))))) ∨ (¬ 0 < (r22.length : Int) ∧ ((x10 = 0 ∧ (∃ c53_0 : Bool, (∃ c53_1 : List Int, (∃ c53_2 : List Int, (ref08_Num_R 0 1 c53_0 c53_1 c53_2 ∧ (law10_FoldShares_l1 x6 x9 c39t1 0 c39t0_0 c39t0_1 c39t0_2 c53_0 c53_1 c53_2 z)))))) ∨ (¬ x10 = 0 ∧ ((c39t1 = x10 ∧ (∃ c56 : Bool, (law10_works_R c56 ∧ (z = c56)))) ∨ (¬ c39t1 = x10 ∧ (z = false))))))))))))))))) : law10_FoldShares_l0 x5 x6 x7 x9 x10 x11 r22 z := by
  intro n22 ln_22 j jb vs
  refine W.adv 1 ?_
  refine W.adv 5 ?_
  refine W.opS (OpIs.ln (n := (x7.map E_api_Rat).length) (m := x7.length) (by kernel_rfl) (by rw [List.length_map])) ?_
  refine W.adv 3 ?_
  rcases H with ⟨h19, H⟩ | ⟨h19, H⟩
  · refine W.cond true (w := (decide (x11 < (x7.length : Int)))) (by kernel_rfl) (decide_eq_true h19) ?_
    refine W.adv 8 ?_
    obtain ⟨h20, H⟩ := H
    obtain ⟨e21, e22, e23, he24, H⟩ := H
    refine W.opS (OpIs.ixE (enc := E_api_Rat) (n := 3) (k' := .i64) (L := x7) (i := x11) (d0 := (false, [], [])) (x := (e21, e22, e23)) (by kernel_rfl) h20 h19 he24) ?_
    refine W.adv 3 ?_
    obtain ⟨h25, H⟩ := H
    obtain ⟨e26, e27, e28, he29, H⟩ := H
    refine W.opS (OpIs.ixE (enc := E_ref08_Q) (n := 3) (k' := .i64) (L := x9) (i := x11) (d0 := (false, [], [])) (x := (e26, e27, e28)) (by kernel_rfl) h20 h25 he29) ?_
    refine W.adv 1 ?_
    obtain ⟨c30_0, c30_1, c30_2, hc31, H⟩ := H
    refine W.callR (g := 23) (ds := [(.agg [(.bool e26), (.ints .i64 e27), (.ints .i64 e28)])]) (es := [(.agg [(.bool e26), (.ints .i64 e27), (.ints .i64 e28)])]) (r := (.agg [(.bool c30_0), (.ints .u64 c30_1), (.ints .u64 c30_2)])) (by kernel_rfl) (by kernel_rfl) (Ic.args hc31 (by kernel_rfl)) (by kernel_rfl) ?_
    obtain ⟨c32, hc33, H⟩ := H
    refine W.callR (g := 22) (ds := [(.agg [(.bool e21), (.ints .u64 e22), (.ints .u64 e23)]), (.agg [(.bool c30_0), (.ints .u64 c30_1), (.ints .u64 c30_2)])]) (es := [(.agg [(.bool e21), (.ints .u64 e22), (.ints .u64 e23)]), (.agg [(.bool c30_0), (.ints .u64 c30_1), (.ints .u64 c30_2)])]) (r := (.bool c32)) (by kernel_rfl) (by kernel_rfl) (Ic.args hc33 (by kernel_rfl)) (by kernel_rfl) ?_
    refine W.adv 3 ?_
    rcases H with ⟨h34, H⟩ | ⟨h34, H⟩
    · refine W.cond false (w := (!c32)) (by kernel_rfl) (congrArg (fun b => !b) h34) ?_
      refine W.adv 9 ?_
      exact W.to_loop (P := law10_FoldShares_l0_s x5 x6 x7 x9 x10 (wi (x11 + 1)) r22 n22) (H _ ln_22) (by kernel_rfl)
    · refine W.cond true (w := (!c32)) (by kernel_rfl) (congrArg (fun b => !b) (bfalse h34)) ?_
      refine W.adv 11 ?_
      exact W.fin (x := .ret) (by kernel_rfl) (LAns.of (d := (.bool false)) (by kernel_rfl) (by rw [H]))
  · refine W.cond false (w := (decide (x11 < (x7.length : Int)))) (by kernel_rfl) (decide_eq_false h19) ?_
    refine W.adv 9 ?_
    obtain ⟨h38, H⟩ := H
    obtain ⟨y35, hy36, H⟩ := H
    have ln37 : r22.length = y35.length := by rw [hy36] <;> rfl
    refine W.opH (OpIs.apNil (y := (.sref 22 1 1 0 n22)) (B := none) (n := 8) (d := 70) (v := (jb 70).ver) (k := .i64) (ys := r22) (by kernel_rfl) (src_row (b := 22) (v := 1) (w := 1) (fz := true) (k := .i64) (xs := r22) (by kernel_rfl) rfl ln_22) hy36 h38) ?_
    refine W.adv 1 ?_
    obtain ⟨c39t0_0, c39t0_1, c39t0_2, c39t1, hc40, H⟩ := H
    refine W.callR (g := 24) (ds := [(.sref 70 ((jb 70).ver + 1) 1 0 r22.length), (.list 3 (x5.map E_api_Rat))]) (es := [(.ints .i64 y35), (.list 3 (x5.map E_api_Rat))]) (r := (.tuple [(.agg [(.bool c39t0_0), (.ints .u64 c39t0_1), (.ints .u64 c39t0_2)]), (.int .i64 c39t1)])) (by kernel_rfl) (rf_cons (rf_full (b := 70) (v := ((jb 70).ver + 1)) (w := ((jb 70).ver + 1)) (fz := false) (k := .i64) (xs := y35) (by kernel_rfl) rfl ln37) (rf_cons (by kernel_rfl) rf_nil)) (Ic.args hc40 (by kernel_rfl)) (by kernel_rfl) ?_
    refine W.adv 4 ?_
    refine W.opH (OpIs.stV (b := 12) (v := ((jb 12).ver + 1)) (i := 0) (off := 0) (w := ((jb 12).ver + 1)) (n := 3) (s := 3) (xs := [(.agg [(.bool false), .nilS, .nilS])]) (ys := [(.agg [(.bool c39t0_0), (.ints .u64 c39t0_1), (.ints .u64 c39t0_2)])]) (d := (.agg [(.bool false), .nilS, .nilS])) (y := (.agg [(.bool c39t0_0), (.ints .u64 c39t0_1), (.ints .u64 c39t0_2)])) (by kernel_rfl) rfl (by kernel_rfl) (by kernel_rfl) (Nat.le_of_ble_eq_true (by kernel_rfl)) (by kernel_rfl) (by kernel_rfl)) ?_
    refine W.adv 7 ?_
    refine W.opS (OpIs.ln (n := n22) (m := r22.length) (by kernel_rfl) ln_22) ?_
    refine W.adv 2 ?_
    rcases H with ⟨h41, H⟩ | ⟨h41, H⟩
    · refine W.guard true (w := ((decide (0 < (r22.length : Int))) == true)) (by kernel_rfl) (congrArg (fun b => b == true) (decide_eq_true h41)) ?_
      refine W.adv 1 ?_
      refine W.guard true (w := ((decide (0 < (r22.length : Int))) == true)) (by kernel_rfl) (congrArg (fun b => b == true) (decide_eq_true h41)) ?_
      refine W.opS (OpIs.ln (n := n22) (m := r22.length) (by kernel_rfl) ln_22) ?_
      refine W.guard true (w := ((decide (0 < (r22.length : Int))) == true)) (by kernel_rfl) (congrArg (fun b => b == true) (decide_eq_true h41)) ?_
      refine W.adv 1 ?_
      refine W.guard true (w := ((decide (0 < (r22.length : Int))) == true)) (by kernel_rfl) (congrArg (fun b => b == true) (decide_eq_true h41)) ?_
      refine W.opS (OpIs.ln (n := (x6.map E_ref08_Q).length) (m := x6.length) (by kernel_rfl) (by rw [List.length_map])) ?_
      refine W.guard true (w := ((decide (0 < (r22.length : Int))) == true)) (by kernel_rfl) (congrArg (fun b => b == true) (decide_eq_true h41)) ?_
      refine W.adv 1 ?_
      refine W.opS (OpIs.pk true (t := (decide (0 < (r22.length : Int)))) (x := (.bool (!(decide ((r22.length : Int) = (x6.length : Int)))))) (y := (.bool false)) (by kernel_rfl) (decide_eq_true h41)) ?_
      refine W.adv 2 ?_
      rcases H with ⟨h42, H⟩ | ⟨h42, H⟩
      · refine W.cond false (w := (!(decide ((r22.length : Int) = (x6.length : Int))))) (by kernel_rfl) (congrArg (fun b => !b) (decide_eq_true h42)) ?_
        refine W.adv 9 ?_
        rcases H with ⟨h43, H⟩ | ⟨h43, H⟩
        · refine W.cond false (w := (!(decide (x10 = 0)))) (by kernel_rfl) (congrArg (fun b => !b) (decide_eq_true h43)) ?_
          refine W.adv 4 ?_
          obtain ⟨c44_0, c44_1, c44_2, hc45, H⟩ := H
          refine W.callR (g := 26) (ds := [(.int .i64 0), (.int .i64 1)]) (es := [(.int .i64 0), (.int .i64 1)]) (r := (.agg [(.bool c44_0), (.ints .i64 c44_1), (.ints .i64 c44_2)])) (by kernel_rfl) (by kernel_rfl) (Ic.args hc45 (by kernel_rfl)) (by kernel_rfl) ?_
          refine W.adv 1 ?_
          refine W.opH (OpIs.stV (b := 14) (v := ((jb 14).ver + 1)) (i := 0) (off := 0) (w := ((jb 14).ver + 1)) (n := 3) (s := 3) (xs := [(.agg [(.bool false), .nilS, .nilS])]) (ys := [(.agg [(.bool c44_0), (.ints .i64 c44_1), (.ints .i64 c44_2)])]) (d := (.agg [(.bool false), .nilS, .nilS])) (y := (.agg [(.bool c44_0), (.ints .i64 c44_1), (.ints .i64 c44_2)])) (by kernel_rfl) rfl (by kernel_rfl) (by kernel_rfl) (Nat.le_of_ble_eq_true (by kernel_rfl)) (by kernel_rfl) (by kernel_rfl)) ?_
          refine W.adv 9 ?_
          exact W.to_loop (P := law10_FoldShares_l1_s x6 x9 c39t1 0 c39t0_0 c39t0_1 c39t0_2 c44_0 c44_1 c44_2) (H ) (by kernel_rfl)
        · refine W.cond true (w := (!(decide (x10 = 0)))) (by kernel_rfl) (congrArg (fun b => !b) (decide_eq_false h43)) ?_
          refine W.adv 6 ?_
          rcases H with ⟨h46, H⟩ | ⟨h46, H⟩
          · refine W.guard true (w := ((decide (c39t1 = x10)) == true)) (by kernel_rfl) (congrArg (fun b => b == true) (decide_eq_true h46)) ?_
            obtain ⟨c47, hc48, H⟩ := H
            refine W.callR (g := 25) (ds := []) (es := []) (r := (.bool c47)) (by kernel_rfl) (by kernel_rfl) (Ic.args hc48 (by kernel_rfl)) (by kernel_rfl) ?_
            refine W.opS (OpIs.pk true (t := (decide (c39t1 = x10))) (x := (.bool c47)) (y := (.bool false)) (by kernel_rfl) (decide_eq_true h46)) ?_
            refine W.adv 5 ?_
            exact W.fin (x := .ret) (by kernel_rfl) (LAns.of (d := (.bool c47)) (by kernel_rfl) (by rw [H]))
          · refine W.guard false (w := ((decide (c39t1 = x10)) == true)) (by kernel_rfl) (congrArg (fun b => b == true) (decide_eq_false h46)) ?_
            refine W.opS (OpIs.pk false (t := (decide (c39t1 = x10))) (x := (.tuple [])) (y := (.bool false)) (by kernel_rfl) (decide_eq_false h46)) ?_
            refine W.adv 5 ?_
            exact W.fin (x := .ret) (by kernel_rfl) (LAns.of (d := (.bool false)) (by kernel_rfl) (by rw [H]))
      · refine W.cond true (w := (!(decide ((r22.length : Int) = (x6.length : Int))))) (by kernel_rfl) (congrArg (fun b => !b) (decide_eq_false h42)) ?_
        refine W.adv 5 ?_
        rcases H with ⟨h49, H⟩ | ⟨h49, H⟩
        · refine W.guard true (w := ((decide (c39t1 = 2)) == true)) (by kernel_rfl) (congrArg (fun b => b == true) (decide_eq_true h49)) ?_
          obtain ⟨c50, hc51, H⟩ := H
          refine W.callR (g := 25) (ds := []) (es := []) (r := (.bool c50)) (by kernel_rfl) (by kernel_rfl) (Ic.args hc51 (by kernel_rfl)) (by kernel_rfl) ?_
          refine W.opS (OpIs.pk true (t := (decide (c39t1 = 2))) (x := (.bool c50)) (y := (.bool false)) (by kernel_rfl) (decide_eq_true h49)) ?_
          refine W.adv 5 ?_
          exact W.fin (x := .ret) (by kernel_rfl) (LAns.of (d := (.bool c50)) (by kernel_rfl) (by rw [H]))
        · refine W.guard false (w := ((decide (c39t1 = 2)) == true)) (by kernel_rfl) (congrArg (fun b => b == true) (decide_eq_false h49)) ?_
          refine W.opS (OpIs.pk false (t := (decide (c39t1 = 2))) (x := (.tuple [])) (y := (.bool false)) (by kernel_rfl) (decide_eq_false h49)) ?_
          refine W.adv 5 ?_
          exact W.fin (x := .ret) (by kernel_rfl) (LAns.of (d := (.bool false)) (by kernel_rfl) (by rw [H]))
    · refine W.guard false (w := ((decide (0 < (r22.length : Int))) == true)) (by kernel_rfl) (congrArg (fun b => b == true) (decide_eq_false h41)) ?_
      refine W.guard false (w := ((decide (0 < (r22.length : Int))) == true)) (by kernel_rfl) (congrArg (fun b => b == true) (decide_eq_false h41)) ?_
      refine W.guard false (w := ((decide (0 < (r22.length : Int))) == true)) (by kernel_rfl) (congrArg (fun b => b == true) (decide_eq_false h41)) ?_
      refine W.guard false (w := ((decide (0 < (r22.length : Int))) == true)) (by kernel_rfl) (congrArg (fun b => b == true) (decide_eq_false h41)) ?_
      refine W.guard false (w := ((decide (0 < (r22.length : Int))) == true)) (by kernel_rfl) (congrArg (fun b => b == true) (decide_eq_false h41)) ?_
      refine W.opS (OpIs.pk false (t := (decide (0 < (r22.length : Int)))) (x := (.tuple [])) (y := (.bool false)) (by kernel_rfl) (decide_eq_false h41)) ?_
      refine W.adv 12 ?_
      rcases H with ⟨h52, H⟩ | ⟨h52, H⟩
      · refine W.cond false (w := (!(decide (x10 = 0)))) (by kernel_rfl) (congrArg (fun b => !b) (decide_eq_true h52)) ?_
        refine W.adv 4 ?_
        obtain ⟨c53_0, c53_1, c53_2, hc54, H⟩ := H
        refine W.callR (g := 26) (ds := [(.int .i64 0), (.int .i64 1)]) (es := [(.int .i64 0), (.int .i64 1)]) (r := (.agg [(.bool c53_0), (.ints .i64 c53_1), (.ints .i64 c53_2)])) (by kernel_rfl) (by kernel_rfl) (Ic.args hc54 (by kernel_rfl)) (by kernel_rfl) ?_
        refine W.adv 1 ?_
        refine W.opH (OpIs.stV (b := 14) (v := ((jb 14).ver + 1)) (i := 0) (off := 0) (w := ((jb 14).ver + 1)) (n := 3) (s := 3) (xs := [(.agg [(.bool false), .nilS, .nilS])]) (ys := [(.agg [(.bool c53_0), (.ints .i64 c53_1), (.ints .i64 c53_2)])]) (d := (.agg [(.bool false), .nilS, .nilS])) (y := (.agg [(.bool c53_0), (.ints .i64 c53_1), (.ints .i64 c53_2)])) (by kernel_rfl) rfl (by kernel_rfl) (by kernel_rfl) (Nat.le_of_ble_eq_true (by kernel_rfl)) (by kernel_rfl) (by kernel_rfl)) ?_
        refine W.adv 9 ?_
        exact W.to_loop (P := law10_FoldShares_l1_s x6 x9 c39t1 0 c39t0_0 c39t0_1 c39t0_2 c53_0 c53_1 c53_2) (H ) (by kernel_rfl)
      · refine W.cond true (w := (!(decide (x10 = 0)))) (by kernel_rfl) (congrArg (fun b => !b) (decide_eq_false h52)) ?_
        refine W.adv 6 ?_
        rcases H with ⟨h55, H⟩ | ⟨h55, H⟩
        · refine W.guard true (w := ((decide (c39t1 = x10)) == true)) (by kernel_rfl) (congrArg (fun b => b == true) (decide_eq_true h55)) ?_
          obtain ⟨c56, hc57, H⟩ := H
          refine W.callR (g := 25) (ds := []) (es := []) (r := (.bool c56)) (by kernel_rfl) (by kernel_rfl) (Ic.args hc57 (by kernel_rfl)) (by kernel_rfl) ?_
          refine W.opS (OpIs.pk true (t := (decide (c39t1 = x10))) (x := (.bool c56)) (y := (.bool false)) (by kernel_rfl) (decide_eq_true h55)) ?_
          refine W.adv 5 ?_
          exact W.fin (x := .ret) (by kernel_rfl) (LAns.of (d := (.bool c56)) (by kernel_rfl) (by rw [H]))
        · refine W.guard false (w := ((decide (c39t1 = x10)) == true)) (by kernel_rfl) (congrArg (fun b => b == true) (decide_eq_false h55)) ?_
          refine W.opS (OpIs.pk false (t := (decide (c39t1 = x10))) (x := (.tuple [])) (y := (.bool false)) (by kernel_rfl) (decide_eq_false h55)) ?_
          refine W.adv 5 ?_
          exact W.fin (x := .ret) (by kernel_rfl) (LAns.of (d := (.bool false)) (by kernel_rfl) (by rw [H]))
theorem law10_FoldShares_l1_go {x6 : List T_ref08_Q} {x9 : List T_ref08_Q} {x13 : Int} {x15 : Int} {r12_0_0 : Bool} {r12_0_1 : List Int} {r12_0_2 : List Int} {r14_0_0 : Bool} {r14_0_1 : List Int} {r14_0_2 : List Int} {z : Bool} (H : ((x15 < (x6.length : Int) ∧ (0 ≤ x15 ∧ (x15 < (x9.length : Int) ∧ (∃ e61 : Bool, (∃ e62 : List Int, (∃ e63 : List Int, (x9.getD (x15).toNat (false, [], []) = (e61, e62, e63) ∧ (∃ e65 : Bool, (∃ e66 : List Int, (∃ e67 : List Int, (x6.getD (x15).toNat (false, [], []) = (e65, e66, e67) ∧ (∃ c69_0 : Bool, (∃ c69_1 : List Int, (∃ c69_2 : List Int, (ref08_Mul_R e61 e62 e63 e65 e66 e67 c69_0 c69_1 c69_2 ∧ (∃ c71_0 : Bool, (∃ c71_1 : List Int, (∃ c71_2 : List Int, (ref08_Add_R r14_0_0 r14_0_1 r14_0_2 c69_0 c69_1 c69_2 c71_0 c71_1 c71_2 ∧ (law10_FoldShares_l1 x6 x9 x13 (wi (x15 + 1)) r12_0_0 r12_0_1 r12_0_2 c71_0 c71_1 c71_2 z)))))))))))))))))))) ∨ (¬ x15 < (x6.length : Int) ∧ ((x13 = 0 ∧ (∃ c74_0 : Bool, (∃ c74_1 : List Int, (∃ c74_2 : List Int, (ref08_Back_R r14_0_0 r14_0_1 r14_0_2 c74_0 c74_1 c74_2 ∧ (∃ c76 : Bool, (ref08_Same_R r12_0_0 r12_0_1 r12_0_2 c74_0 c74_1 c74_2 c76 ∧ ((c76 = true ∧ (∃ c79 : Bool, (law10_works_R c79 ∧ (z = c79)))) ∨ (¬ c76 = true ∧ (z = false)))))))))) ∨ (¬ x13 = 0 ∧ (z = false)))))) : law10_FoldShares_l1 x6 x9 x13 x15 r12_0_0 r12_0_1 r12_0_2 r14_0_0 r14_0_1 r14_0_2 z := by
  intro j jb vs
  refine W.adv 1 ?_
  refine W.adv 5 ?_
  refine W.opS (OpIs.ln (n := (x6.map E_ref08_Q).length) (m := x6.length) (by kernel_rfl) (by rw [List.length_map])) ?_
  refine W.adv 3 ?_
  rcases H with ⟨h58, H⟩ | ⟨h58, H⟩
  · refine W.cond true (w := (decide (x15 < (x6.length : Int)))) (by kernel_rfl) (decide_eq_true h58) ?_
    refine W.adv 5 ?_
    refine W.opS (OpIs.ldV (b := 14) (v := ((vs 14) + 1)) (i := 0) (off := 0) (w := ((vs 14) + 1)) (n := 3) (s := 3) (fz := false) (a := true) (xs := [(.agg [(.bool r14_0_0), (.ints .i64 r14_0_1), (.ints .i64 r14_0_2)])]) (r := (.agg [(.bool r14_0_0), (.ints .i64 r14_0_1), (.ints .i64 r14_0_2)])) (by kernel_rfl) rfl (by kernel_rfl)) ?_
    refine W.adv 2 ?_
    obtain ⟨h59, h60, H⟩ := H
    obtain ⟨e61, e62, e63, he64, H⟩ := H
    refine W.opS (OpIs.ixE (enc := E_ref08_Q) (n := 3) (k' := .i64) (L := x9) (i := x15) (d0 := (false, [], [])) (x := (e61, e62, e63)) (by kernel_rfl) h59 h60 he64) ?_
    refine W.adv 3 ?_
    obtain ⟨e65, e66, e67, he68, H⟩ := H
    refine W.opS (OpIs.ixE (enc := E_ref08_Q) (n := 3) (k' := .i64) (L := x6) (i := x15) (d0 := (false, [], [])) (x := (e65, e66, e67)) (by kernel_rfl) h59 h58 he68) ?_
    refine W.adv 1 ?_
    obtain ⟨c69_0, c69_1, c69_2, hc70, H⟩ := H
    refine W.callR (g := 28) (ds := [(.agg [(.bool e61), (.ints .i64 e62), (.ints .i64 e63)]), (.agg [(.bool e65), (.ints .i64 e66), (.ints .i64 e67)])]) (es := [(.agg [(.bool e61), (.ints .i64 e62), (.ints .i64 e63)]), (.agg [(.bool e65), (.ints .i64 e66), (.ints .i64 e67)])]) (r := (.agg [(.bool c69_0), (.ints .i64 c69_1), (.ints .i64 c69_2)])) (by kernel_rfl) (by kernel_rfl) (Ic.args hc70 (by kernel_rfl)) (by kernel_rfl) ?_
    obtain ⟨c71_0, c71_1, c71_2, hc72, H⟩ := H
    refine W.callR (g := 27) (ds := [(.agg [(.bool r14_0_0), (.ints .i64 r14_0_1), (.ints .i64 r14_0_2)]), (.agg [(.bool c69_0), (.ints .i64 c69_1), (.ints .i64 c69_2)])]) (es := [(.agg [(.bool r14_0_0), (.ints .i64 r14_0_1), (.ints .i64 r14_0_2)]), (.agg [(.bool c69_0), (.ints .i64 c69_1), (.ints .i64 c69_2)])]) (r := (.agg [(.bool c71_0), (.ints .i64 c71_1), (.ints .i64 c71_2)])) (by kernel_rfl) (by kernel_rfl) (Ic.args hc72 (by kernel_rfl)) (by kernel_rfl) ?_
    refine W.opH (OpIs.stV (b := 14) (v := ((vs 14) + 1)) (i := 0) (off := 0) (w := ((vs 14) + 1)) (n := 3) (s := 3) (xs := [(.agg [(.bool r14_0_0), (.ints .i64 r14_0_1), (.ints .i64 r14_0_2)])]) (ys := [(.agg [(.bool c71_0), (.ints .i64 c71_1), (.ints .i64 c71_2)])]) (d := (.agg [(.bool r14_0_0), (.ints .i64 r14_0_1), (.ints .i64 r14_0_2)])) (y := (.agg [(.bool c71_0), (.ints .i64 c71_1), (.ints .i64 c71_2)])) (by kernel_rfl) rfl (by kernel_rfl) (by kernel_rfl) (Nat.le_of_ble_eq_true (by kernel_rfl)) (by kernel_rfl) (by kernel_rfl)) ?_
    refine W.adv 9 ?_
    exact W.to_loop (P := law10_FoldShares_l1_s x6 x9 x13 (wi (x15 + 1)) r12_0_0 r12_0_1 r12_0_2 c71_0 c71_1 c71_2) (H ) (by kernel_rfl)
  · refine W.cond false (w := (decide (x15 < (x6.length : Int)))) (by kernel_rfl) (decide_eq_false h58) ?_
    refine W.adv 10 ?_
    rcases H with ⟨h73, H⟩ | ⟨h73, H⟩
    · refine W.guard true (w := ((decide (x13 = 0)) == true)) (by kernel_rfl) (congrArg (fun b => b == true) (decide_eq_true h73)) ?_
      refine W.opS (OpIs.ldV (b := 12) (v := ((vs 12) + 1)) (i := 0) (off := 0) (w := ((vs 12) + 1)) (n := 3) (s := 3) (fz := false) (a := true) (xs := [(.agg [(.bool r12_0_0), (.ints .u64 r12_0_1), (.ints .u64 r12_0_2)])]) (r := (.agg [(.bool r12_0_0), (.ints .u64 r12_0_1), (.ints .u64 r12_0_2)])) (by kernel_rfl) rfl (by kernel_rfl)) ?_
      refine W.guard true (w := ((decide (x13 = 0)) == true)) (by kernel_rfl) (congrArg (fun b => b == true) (decide_eq_true h73)) ?_
      refine W.opS (OpIs.ldV (b := 14) (v := ((vs 14) + 1)) (i := 0) (off := 0) (w := ((vs 14) + 1)) (n := 3) (s := 3) (fz := false) (a := true) (xs := [(.agg [(.bool r14_0_0), (.ints .i64 r14_0_1), (.ints .i64 r14_0_2)])]) (r := (.agg [(.bool r14_0_0), (.ints .i64 r14_0_1), (.ints .i64 r14_0_2)])) (by kernel_rfl) rfl (by kernel_rfl)) ?_
      refine W.guard true (w := ((decide (x13 = 0)) == true)) (by kernel_rfl) (congrArg (fun b => b == true) (decide_eq_true h73)) ?_
      obtain ⟨c74_0, c74_1, c74_2, hc75, H⟩ := H
      refine W.callR (g := 23) (ds := [(.agg [(.bool r14_0_0), (.ints .i64 r14_0_1), (.ints .i64 r14_0_2)])]) (es := [(.agg [(.bool r14_0_0), (.ints .i64 r14_0_1), (.ints .i64 r14_0_2)])]) (r := (.agg [(.bool c74_0), (.ints .u64 c74_1), (.ints .u64 c74_2)])) (by kernel_rfl) (by kernel_rfl) (Ic.args hc75 (by kernel_rfl)) (by kernel_rfl) ?_
      refine W.guard true (w := ((decide (x13 = 0)) == true)) (by kernel_rfl) (congrArg (fun b => b == true) (decide_eq_true h73)) ?_
      obtain ⟨c76, hc77, H⟩ := H
      refine W.callR (g := 22) (ds := [(.agg [(.bool r12_0_0), (.ints .u64 r12_0_1), (.ints .u64 r12_0_2)]), (.agg [(.bool c74_0), (.ints .u64 c74_1), (.ints .u64 c74_2)])]) (es := [(.agg [(.bool r12_0_0), (.ints .u64 r12_0_1), (.ints .u64 r12_0_2)]), (.agg [(.bool c74_0), (.ints .u64 c74_1), (.ints .u64 c74_2)])]) (r := (.bool c76)) (by kernel_rfl) (by kernel_rfl) (Ic.args hc77 (by kernel_rfl)) (by kernel_rfl) ?_
      refine W.opS (OpIs.pk true (t := (decide (x13 = 0))) (x := (.bool c76)) (y := (.bool false)) (by kernel_rfl) (decide_eq_true h73)) ?_
      refine W.adv 1 ?_
      rcases H with ⟨h78, H⟩ | ⟨h78, H⟩
      · refine W.guard true (w := (c76 == true)) (by kernel_rfl) (congrArg (fun b => b == true) h78) ?_
        obtain ⟨c79, hc80, H⟩ := H
        refine W.callR (g := 25) (ds := []) (es := []) (r := (.bool c79)) (by kernel_rfl) (by kernel_rfl) (Ic.args hc80 (by kernel_rfl)) (by kernel_rfl) ?_
        refine W.opS (OpIs.pk true (t := c76) (x := (.bool c79)) (y := (.bool false)) (by kernel_rfl) h78) ?_
        refine W.adv 4 ?_
        exact W.fin (x := .ret) (by kernel_rfl) (LAns.of (d := (.bool c79)) (by kernel_rfl) (by rw [H]))
      · refine W.guard false (w := (c76 == true)) (by kernel_rfl) (congrArg (fun b => b == true) (bfalse h78)) ?_
        refine W.opS (OpIs.pk false (t := c76) (x := (.tuple [])) (y := (.bool false)) (by kernel_rfl) (bfalse h78)) ?_
        refine W.adv 4 ?_
        exact W.fin (x := .ret) (by kernel_rfl) (LAns.of (d := (.bool false)) (by kernel_rfl) (by rw [H]))
    · refine W.guard false (w := ((decide (x13 = 0)) == true)) (by kernel_rfl) (congrArg (fun b => b == true) (decide_eq_false h73)) ?_
      refine W.guard false (w := ((decide (x13 = 0)) == true)) (by kernel_rfl) (congrArg (fun b => b == true) (decide_eq_false h73)) ?_
      refine W.guard false (w := ((decide (x13 = 0)) == true)) (by kernel_rfl) (congrArg (fun b => b == true) (decide_eq_false h73)) ?_
      refine W.guard false (w := ((decide (x13 = 0)) == true)) (by kernel_rfl) (congrArg (fun b => b == true) (decide_eq_false h73)) ?_
      refine W.opS (OpIs.pk false (t := (decide (x13 = 0))) (x := (.tuple [])) (y := (.bool false)) (by kernel_rfl) (decide_eq_false h73)) ?_
      refine W.adv 7 ?_
      exact W.fin (x := .ret) (by kernel_rfl) (LAns.of (d := (.bool false)) (by kernel_rfl) (by rw [H]))
theorem law10_FoldShares_go {a0 : List Int} {a1 : List T_api_Rat} {z : Bool} (H : (0 ≤ (mn (a0.length : Int) 8) ∧ ((mn (a0.length : Int) 8) ≤ (a0.length : Int) ∧ (((a0.take (mn (a0.length : Int) 8).toNat).length + 192) * (8 + 1) ≤ 70368744177664 ∧ (∃ y3, y3 = (a0.take (mn (a0.length : Int) 8).toNat) ∧ (∃ c7t0 : List T_api_Rat, (∃ c7t1 : List T_ref08_Q, (law10_few_R a1 c7t0 c7t1 ∧ ((y3.length + 192) * (8 + 1) ≤ 70368744177664 ∧ (∃ y9, y9 = y3 ∧ (∃ c13t0 : List T_api_Rat, (∃ c13t1 : Int, (fold_Shares_R y9 c13t0 c13t1 ∧ (∃ c15t0 : List T_ref08_Q, (∃ c15t1 : Int, (ref10_Shares_R y3 c15t0 c15t1 ∧ ((c13t1 = c15t1 ∧ (((c13t0.length : Int) = (c15t0.length : Int) ∧ (law10_FoldShares_l0 c7t0 c7t1 c13t0 c15t0 c15t1 0 y3 z)) ∨ (¬ (c13t0.length : Int) = (c15t0.length : Int) ∧ (z = false)))) ∨ (¬ c13t1 = c15t1 ∧ (z = false))))))))))))))))))) : law10_FoldShares_R a0 a1 z := by
  refine W.lawIs (zs := [(.ints .i64 a0), (.list 3 (a1.map E_api_Rat))]) Try.func4 (by kernel_rfl) (by kernel_rfl) (by kernel_rfl) ?_
  refine W.adv 12 ?_
  obtain ⟨h1, h2, H⟩ := H
  refine W.opS (OpIs.slI_hi (k := .i64) (k' := .i64) (xs := a0) (i := (mn (a0.length : Int) 8)) (by kernel_rfl) h1 h2) ?_
  obtain ⟨h6, H⟩ := H
  obtain ⟨y3, hy4, H⟩ := H
  have ln5 : (a0.take (mn (a0.length : Int) 8).toNat).length = y3.length := by rw [hy4] <;> rfl
  refine W.opH (OpIs.apNil (y := (.ints .i64 (a0.take (mn (a0.length : Int) 8).toNat))) (B := none) (n := 8) (d := 22) (v := 0) (k := .i64) (ys := (a0.take (mn (a0.length : Int) 8).toNat)) (by kernel_rfl) (by kernel_rfl) hy4 h6) ?_
  refine W.adv 6 ?_
  obtain ⟨c7t0, c7t1, hc8, H⟩ := H
  refine W.callR (g := 19) (ds := [(.list 3 (a1.map E_api_Rat))]) (es := [(.list 3 (a1.map E_api_Rat))]) (r := (.tuple [(.list 3 (c7t0.map E_api_Rat)), (.list 3 (c7t1.map E_ref08_Q))])) (by kernel_rfl) (by kernel_rfl) (Ic.args hc8 (by kernel_rfl)) (by kernel_rfl) ?_
  refine W.adv 11 ?_
  obtain ⟨h12, H⟩ := H
  obtain ⟨y9, hy10, H⟩ := H
  have ln11 : y3.length = y9.length := by rw [hy10] <;> rfl
  refine W.opH (OpIs.apNil (y := (.sref 22 1 1 0 (a0.take (mn (a0.length : Int) 8).toNat).length)) (B := none) (n := 8) (d := 31) (v := 0) (k := .i64) (ys := y3) (by kernel_rfl) (src_row (b := 22) (v := 1) (w := 1) (fz := false) (k := .i64) (xs := y3) (by kernel_rfl) rfl ln5) hy10 h12) ?_
  obtain ⟨c13t0, c13t1, hc14, H⟩ := H
  refine W.callT (g := 20) (ds := [(.sref 31 1 1 0 y3.length)]) (es := [(.ints .i64 y9)]) (r := (.tuple [(.list 3 (c13t0.map E_api_Rat)), (.int .i64 c13t1)])) (by kernel_rfl) (by kernel_rfl) (rf_cons (rf_full (b := 31) (v := 1) (w := 1) (fz := false) (k := .i64) (xs := y9) (by kernel_rfl) rfl ln11) rf_nil) (Ic.args hc14 (by kernel_rfl)) ?_
  refine W.adv 10 ?_
  obtain ⟨c15t0, c15t1, hc16, H⟩ := H
  refine W.callR (g := 21) (ds := [(.sref 22 1 1 0 (a0.take (mn (a0.length : Int) 8).toNat).length)]) (es := [(.ints .i64 y3)]) (r := (.tuple [(.list 3 (c15t0.map E_ref08_Q)), (.int .i64 c15t1)])) (by kernel_rfl) (rf_cons (rf_full (b := 22) (v := 1) (w := 1) (fz := false) (k := .i64) (xs := y3) (by kernel_rfl) rfl ln5) rf_nil) (Ic.args hc16 (by kernel_rfl)) (by kernel_rfl) ?_
  refine W.adv 14 ?_
  rcases H with ⟨h17, H⟩ | ⟨h17, H⟩
  · refine W.guard true (w := ((!(decide (c13t1 = c15t1))) == false)) (by kernel_rfl) (congrArg (fun b => b == false) (congrArg (fun b => !b) (decide_eq_true h17))) ?_
    refine W.adv 1 ?_
    refine W.guard true (w := ((!(decide (c13t1 = c15t1))) == false)) (by kernel_rfl) (congrArg (fun b => b == false) (congrArg (fun b => !b) (decide_eq_true h17))) ?_
    refine W.opS (OpIs.ln (n := (c13t0.map E_api_Rat).length) (m := c13t0.length) (by kernel_rfl) (by rw [List.length_map])) ?_
    refine W.guard true (w := ((!(decide (c13t1 = c15t1))) == false)) (by kernel_rfl) (congrArg (fun b => b == false) (congrArg (fun b => !b) (decide_eq_true h17))) ?_
    refine W.adv 1 ?_
    refine W.guard true (w := ((!(decide (c13t1 = c15t1))) == false)) (by kernel_rfl) (congrArg (fun b => b == false) (congrArg (fun b => !b) (decide_eq_true h17))) ?_
    refine W.opS (OpIs.ln (n := (c15t0.map E_ref08_Q).length) (m := c15t0.length) (by kernel_rfl) (by rw [List.length_map])) ?_
    refine W.guard true (w := ((!(decide (c13t1 = c15t1))) == false)) (by kernel_rfl) (congrArg (fun b => b == false) (congrArg (fun b => !b) (decide_eq_true h17))) ?_
    refine W.adv 1 ?_
    refine W.opS (OpIs.pk false (t := (!(decide (c13t1 = c15t1)))) (x := (.bool true)) (y := (.bool (!(decide ((c13t0.length : Int) = (c15t0.length : Int)))))) (by kernel_rfl) (congrArg (fun b => !b) (decide_eq_true h17))) ?_
    refine W.adv 2 ?_
    rcases H with ⟨h18, H⟩ | ⟨h18, H⟩
    · refine W.cond false (w := (!(decide ((c13t0.length : Int) = (c15t0.length : Int))))) (by kernel_rfl) (congrArg (fun b => !b) (decide_eq_true h18)) ?_
      refine W.adv 9 ?_
      exact W.to_loop (P := law10_FoldShares_l0_s c7t0 c7t1 c13t0 c15t0 c15t1 0 y3 ((a0.take (mn (a0.length : Int) 8).toNat).length)) (H _ ln5) (by kernel_rfl)
    · refine W.cond true (w := (!(decide ((c13t0.length : Int) = (c15t0.length : Int))))) (by kernel_rfl) (congrArg (fun b => !b) (decide_eq_false h18)) ?_
      refine W.adv 7 ?_
      exact W.fin (x := .ret) (by kernel_rfl) (LAns.of (d := (.bool false)) (by kernel_rfl) (by rw [H]))
  · refine W.guard false (w := ((!(decide (c13t1 = c15t1))) == false)) (by kernel_rfl) (congrArg (fun b => b == false) (congrArg (fun b => !b) (decide_eq_false h17))) ?_
    refine W.guard false (w := ((!(decide (c13t1 = c15t1))) == false)) (by kernel_rfl) (congrArg (fun b => b == false) (congrArg (fun b => !b) (decide_eq_false h17))) ?_
    refine W.guard false (w := ((!(decide (c13t1 = c15t1))) == false)) (by kernel_rfl) (congrArg (fun b => b == false) (congrArg (fun b => !b) (decide_eq_false h17))) ?_
    refine W.guard false (w := ((!(decide (c13t1 = c15t1))) == false)) (by kernel_rfl) (congrArg (fun b => b == false) (congrArg (fun b => !b) (decide_eq_false h17))) ?_
    refine W.guard false (w := ((!(decide (c13t1 = c15t1))) == false)) (by kernel_rfl) (congrArg (fun b => b == false) (congrArg (fun b => !b) (decide_eq_false h17))) ?_
    refine W.opS (OpIs.pk true (t := (!(decide (c13t1 = c15t1)))) (x := (.bool true)) (y := (.tuple [])) (by kernel_rfl) (congrArg (fun b => !b) (decide_eq_false h17))) ?_
    refine W.adv 10 ?_
    exact W.fin (x := .ret) (by kernel_rfl) (LAns.of (d := (.bool false)) (by kernel_rfl) (by rw [H]))
end Go.Proofs.YteepbjndbemcdaaA
