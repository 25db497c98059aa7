/- Walks through the functions: what makes each relation true. -/
import Derived.Test.YteepbjndbemcdaaW0
set_option linter.unusedVariables false
set_option maxRecDepth 100000
namespace Go.Proofs.YteepbjndbemcdaaA
open Go Go.Proofs
/-! ### trivium/triviumlaw10.FoldBetween -/
theorem law10_FoldBetween_go {a0 : List Int} {a1 : List T_api_Rat} {z : Bool} (H : (∃ c1 : Bool, (law10_works_R c1 ∧ ((c1 = true ∧ (∃ c4t0 : List T_api_Rat, (∃ c4t1 : List T_ref08_Q, (law10_few_R a1 c4t0 c4t1 ∧ (0 ≤ (mn (a0.length : Int) (c4t0.length : Int)) ∧ ((mn (a0.length : Int) (c4t0.length : Int)) ≤ (a0.length : Int) ∧ (((a0.take (mn (a0.length : Int) (c4t0.length : Int)).toNat).length + 192) * (8 + 1) ≤ 70368744177664 ∧ (∃ y8, y8 = (a0.take (mn (a0.length : Int) (c4t0.length : Int)).toNat) ∧ ((mn (a0.length : Int) (c4t0.length : Int)) ≤ (c4t0.length : Int) ∧ (∃ c13t0 : List T_api_Rat, (∃ c13t1 : Int, (fold_Shares_R y8 c13t0 c13t1 ∧ (∃ c15t0_0 : Bool, (∃ c15t0_1 : List Int, (∃ c15t0_2 : List Int, (∃ c15t1 : Int, (fold_Mean_R y8 (c4t0.take (mn (a0.length : Int) (c4t0.length : Int)).toNat) c15t0_0 c15t0_1 c15t0_2 c15t1 ∧ ((c13t1 = 0 ∧ ((c15t1 = 0 ∧ (∃ c19t0_0 : Bool, (∃ c19t0_1 : List Int, (∃ c19t0_2 : List Int, (∃ c19t1 : Int, (fold_Least_R (c4t0.take (mn (a0.length : Int) (c4t0.length : Int)).toNat) c19t0_0 c19t0_1 c19t0_2 c19t1 ∧ (∃ c21t0_0 : Bool, (∃ c21t0_1 : List Int, (∃ c21t0_2 : List Int, (∃ c21t1 : Int, (fold_Greatest_R (c4t0.take (mn (a0.length : Int) (c4t0.length : Int)).toNat) c21t0_0 c21t0_1 c21t0_2 c21t1 ∧ (∃ c23 : Bool, (fold_Whole_R c13t0 c23 ∧ ((c23 = true ∧ (∃ c26 : Int, (rat_Cmp_R c19t0_0 c19t0_1 c19t0_2 c15t0_0 c15t0_1 c15t0_2 c26 ∧ ((c26 ≤ 0 ∧ (∃ c29 : Int, (rat_Cmp_R c15t0_0 c15t0_1 c15t0_2 c21t0_0 c21t0_1 c21t0_2 c29 ∧ (z = (decide (c29 ≤ 0)))))) ∨ (¬ c26 ≤ 0 ∧ (z = false)))))) ∨ (¬ c23 = true ∧ (z = false)))))))))))))))) ∨ (¬ c15t1 = 0 ∧ (z = (decide (c13t1 = c15t1)))))) ∨ (¬ c13t1 = 0 ∧ (z = (decide (c13t1 = c15t1)))))))))))))))))))))) ∨ (¬ c1 = true ∧ (z = false)))))) : law10_FoldBetween_R a0 a1 z := by
  refine W.lawIs (zs := [(.ints .i64 a0), (.list 3 (a1.map E_api_Rat))]) Try.func7 (by kernel_rfl) (by kernel_rfl) (by kernel_rfl) ?_
  refine W.adv 8 ?_
  obtain ⟨c1, hc2, H⟩ := H
  refine W.callR (g := 25) (ds := []) (es := []) (r := (.bool c1)) (by kernel_rfl) (by kernel_rfl) (Ic.args hc2 (by kernel_rfl)) (by kernel_rfl) ?_
  refine W.adv 3 ?_
  rcases H with ⟨h3, H⟩ | ⟨h3, H⟩
  · refine W.cond false (w := (!c1)) (by kernel_rfl) (congrArg (fun b => !b) h3) ?_
    refine W.adv 5 ?_
    obtain ⟨c4t0, c4t1, hc5, H⟩ := H
    refine W.callR (g := 19) (ds := [(.list 3 (a1.map E_api_Rat))]) (es := [(.list 3 (a1.map E_api_Rat))]) (r := (.tuple [(.list 3 (c4t0.map E_api_Rat)), (.list 3 (c4t1.map E_ref08_Q))])) (by kernel_rfl) (by kernel_rfl) (Ic.args hc5 (by kernel_rfl)) (by kernel_rfl) ?_
    refine W.adv 12 ?_
    refine W.opS (OpIs.ln (n := (c4t0.map E_api_Rat).length) (m := c4t0.length) (by kernel_rfl) (by rw [List.length_map])) ?_
    refine W.adv 9 ?_
    obtain ⟨h6, h7, H⟩ := H
    refine W.opS (OpIs.slI_hi (k := .i64) (k' := .i64) (xs := a0) (i := (mn (a0.length : Int) (c4t0.length : Int))) (by kernel_rfl) h6 h7) ?_
    obtain ⟨h11, H⟩ := H
    obtain ⟨y8, hy9, H⟩ := H
    have ln10 : (a0.take (mn (a0.length : Int) (c4t0.length : Int)).toNat).length = y8.length := by rw [hy9] <;> rfl
    refine W.opH (OpIs.apNil (y := (.ints .i64 (a0.take (mn (a0.length : Int) (c4t0.length : Int)).toNat))) (B := none) (n := 8) (d := 32) (v := 0) (k := .i64) (ys := (a0.take (mn (a0.length : Int) (c4t0.length : Int)).toNat)) (by kernel_rfl) (by kernel_rfl) hy9 h11) ?_
    refine W.adv 2 ?_
    obtain ⟨h12, H⟩ := H
    refine W.opS (OpIs.slE_hi (enc := E_api_Rat) (n := 3) (k' := .i64) (L := c4t0) (i := (mn (a0.length : Int) (c4t0.length : Int))) (by kernel_rfl) h6 h12) ?_
    refine W.adv 7 ?_
    obtain ⟨c13t0, c13t1, hc14, H⟩ := H
    refine W.callT (g := 20) (ds := [(.sref 32 1 1 0 (a0.take (mn (a0.length : Int) (c4t0.length : Int)).toNat).length)]) (es := [(.ints .i64 y8)]) (r := (.tuple [(.list 3 (c13t0.map E_api_Rat)), (.int .i64 c13t1)])) (by kernel_rfl) (by kernel_rfl) (rf_cons (rf_full (b := 32) (v := 1) (w := 1) (fz := false) (k := .i64) (xs := y8) (by kernel_rfl) rfl ln10) rf_nil) (Ic.args hc14 (by kernel_rfl)) ?_
    refine W.adv 11 ?_
    obtain ⟨c15t0_0, c15t0_1, c15t0_2, c15t1, hc16, H⟩ := H
    refine W.callR (g := 24) (ds := [(.sref 32 1 1 0 (a0.take (mn (a0.length : Int) (c4t0.length : Int)).toNat).length), (.list 3 ((c4t0.take (mn (a0.length : Int) (c4t0.length : Int)).toNat).map E_api_Rat))]) (es := [(.ints .i64 y8), (.list 3 ((c4t0.take (mn (a0.length : Int) (c4t0.length : Int)).toNat).map E_api_Rat))]) (r := (.tuple [(.agg [(.bool c15t0_0), (.ints .u64 c15t0_1), (.ints .u64 c15t0_2)]), (.int .i64 c15t1)])) (by kernel_rfl) (rf_cons (rf_full (b := 32) (v := 1) (w := 1) (fz := true) (k := .i64) (xs := y8) (by kernel_rfl) rfl ln10) (rf_cons (by kernel_rfl) rf_nil)) (Ic.args hc16 (by kernel_rfl)) (by kernel_rfl) ?_
    refine W.adv 14 ?_
    rcases H with ⟨h17, H⟩ | ⟨h17, H⟩
    · refine W.guard true (w := ((!(decide (c13t1 = 0))) == false)) (by kernel_rfl) (congrArg (fun b => b == false) (congrArg (fun b => !b) (decide_eq_true h17))) ?_
      refine W.adv 1 ?_
      refine W.guard true (w := ((!(decide (c13t1 = 0))) == false)) (by kernel_rfl) (congrArg (fun b => b == false) (congrArg (fun b => !b) (decide_eq_true h17))) ?_
      refine W.adv 1 ?_
      refine W.opS (OpIs.pk false (t := (!(decide (c13t1 = 0)))) (x := (.bool true)) (y := (.bool (!(decide (c15t1 = 0))))) (by kernel_rfl) (congrArg (fun b => !b) (decide_eq_true h17))) ?_
      refine W.adv 2 ?_
      rcases H with ⟨h18, H⟩ | ⟨h18, H⟩
      · refine W.cond false (w := (!(decide (c15t1 = 0)))) (by kernel_rfl) (congrArg (fun b => !b) (decide_eq_true h18)) ?_
        refine W.adv 5 ?_
        obtain ⟨c19t0_0, c19t0_1, c19t0_2, c19t1, hc20, H⟩ := H
        refine W.callR (g := 29) (ds := [(.list 3 ((c4t0.take (mn (a0.length : Int) (c4t0.length : Int)).toNat).map E_api_Rat))]) (es := [(.list 3 ((c4t0.take (mn (a0.length : Int) (c4t0.length : Int)).toNat).map E_api_Rat))]) (r := (.tuple [(.agg [(.bool c19t0_0), (.ints .u64 c19t0_1), (.ints .u64 c19t0_2)]), (.int .i64 c19t1)])) (by kernel_rfl) (by kernel_rfl) (Ic.args hc20 (by kernel_rfl)) (by kernel_rfl) ?_
        refine W.adv 11 ?_
        obtain ⟨c21t0_0, c21t0_1, c21t0_2, c21t1, hc22, H⟩ := H
        refine W.callR (g := 30) (ds := [(.list 3 ((c4t0.take (mn (a0.length : Int) (c4t0.length : Int)).toNat).map E_api_Rat))]) (es := [(.list 3 ((c4t0.take (mn (a0.length : Int) (c4t0.length : Int)).toNat).map E_api_Rat))]) (r := (.tuple [(.agg [(.bool c21t0_0), (.ints .u64 c21t0_1), (.ints .u64 c21t0_2)]), (.int .i64 c21t1)])) (by kernel_rfl) (by kernel_rfl) (Ic.args hc22 (by kernel_rfl)) (by kernel_rfl) ?_
        refine W.adv 11 ?_
        obtain ⟨c23, hc24, H⟩ := H
        refine W.callR (g := 36) (ds := [(.list 3 (c13t0.map E_api_Rat))]) (es := [(.list 3 (c13t0.map E_api_Rat))]) (r := (.bool c23)) (by kernel_rfl) (by kernel_rfl) (Ic.args hc24 (by kernel_rfl)) (by kernel_rfl) ?_
        refine W.adv 1 ?_
        rcases H with ⟨h25, H⟩ | ⟨h25, H⟩
        · refine W.guard true (w := (c23 == true)) (by kernel_rfl) (congrArg (fun b => b == true) h25) ?_
          refine W.adv 1 ?_
          refine W.guard true (w := (c23 == true)) (by kernel_rfl) (congrArg (fun b => b == true) h25) ?_
          refine W.adv 1 ?_
          refine W.guard true (w := (c23 == true)) (by kernel_rfl) (congrArg (fun b => b == true) h25) ?_
          obtain ⟨c26, hc27, H⟩ := H
          refine W.callR (g := 37) (ds := [(.agg [(.bool c19t0_0), (.ints .u64 c19t0_1), (.ints .u64 c19t0_2)]), (.agg [(.bool c15t0_0), (.ints .u64 c15t0_1), (.ints .u64 c15t0_2)])]) (es := [(.agg [(.bool c19t0_0), (.ints .u64 c19t0_1), (.ints .u64 c19t0_2)]), (.agg [(.bool c15t0_0), (.ints .u64 c15t0_1), (.ints .u64 c15t0_2)])]) (r := (.int .i64 c26)) (by kernel_rfl) (by kernel_rfl) (Ic.args hc27 (by kernel_rfl)) (by kernel_rfl) ?_
          refine W.guard true (w := (c23 == true)) (by kernel_rfl) (congrArg (fun b => b == true) h25) ?_
          refine W.adv 1 ?_
          refine W.opS (OpIs.pk true (t := c23) (x := (.bool (decide (c26 ≤ 0)))) (y := (.bool false)) (by kernel_rfl) h25) ?_
          refine W.adv 1 ?_
          rcases H with ⟨h28, H⟩ | ⟨h28, H⟩
          · refine W.guard true (w := ((decide (c26 ≤ 0)) == true)) (by kernel_rfl) (congrArg (fun b => b == true) (decide_eq_true h28)) ?_
            refine W.adv 1 ?_
            refine W.guard true (w := ((decide (c26 ≤ 0)) == true)) (by kernel_rfl) (congrArg (fun b => b == true) (decide_eq_true h28)) ?_
            refine W.adv 1 ?_
            refine W.guard true (w := ((decide (c26 ≤ 0)) == true)) (by kernel_rfl) (congrArg (fun b => b == true) (decide_eq_true h28)) ?_
            obtain ⟨c29, hc30, H⟩ := H
            refine W.callR (g := 37) (ds := [(.agg [(.bool c15t0_0), (.ints .u64 c15t0_1), (.ints .u64 c15t0_2)]), (.agg [(.bool c21t0_0), (.ints .u64 c21t0_1), (.ints .u64 c21t0_2)])]) (es := [(.agg [(.bool c15t0_0), (.ints .u64 c15t0_1), (.ints .u64 c15t0_2)]), (.agg [(.bool c21t0_0), (.ints .u64 c21t0_1), (.ints .u64 c21t0_2)])]) (r := (.int .i64 c29)) (by kernel_rfl) (by kernel_rfl) (Ic.args hc30 (by kernel_rfl)) (by kernel_rfl) ?_
            refine W.guard true (w := ((decide (c26 ≤ 0)) == true)) (by kernel_rfl) (congrArg (fun b => b == true) (decide_eq_true h28)) ?_
            refine W.adv 1 ?_
            refine W.opS (OpIs.pk true (t := (decide (c26 ≤ 0))) (x := (.bool (decide (c29 ≤ 0)))) (y := (.bool false)) (by kernel_rfl) (decide_eq_true h28)) ?_
            refine W.adv 4 ?_
            exact W.fin (x := .ret) (by kernel_rfl) (LAns.of (d := (.bool (decide (c29 ≤ 0)))) (by kernel_rfl) (by rw [H]))
          · refine W.guard false (w := ((decide (c26 ≤ 0)) == true)) (by kernel_rfl) (congrArg (fun b => b == true) (decide_eq_false h28)) ?_
            refine W.guard false (w := ((decide (c26 ≤ 0)) == true)) (by kernel_rfl) (congrArg (fun b => b == true) (decide_eq_false h28)) ?_
            refine W.guard false (w := ((decide (c26 ≤ 0)) == true)) (by kernel_rfl) (congrArg (fun b => b == true) (decide_eq_false h28)) ?_
            refine W.guard false (w := ((decide (c26 ≤ 0)) == true)) (by kernel_rfl) (congrArg (fun b => b == true) (decide_eq_false h28)) ?_
            refine W.opS (OpIs.pk false (t := (decide (c26 ≤ 0))) (x := (.tuple [])) (y := (.bool false)) (by kernel_rfl) (decide_eq_false h28)) ?_
            refine W.adv 4 ?_
            exact W.fin (x := .ret) (by kernel_rfl) (LAns.of (d := (.bool false)) (by kernel_rfl) (by rw [H]))
        · refine W.guard false (w := (c23 == true)) (by kernel_rfl) (congrArg (fun b => b == true) (bfalse h25)) ?_
          refine W.guard false (w := (c23 == true)) (by kernel_rfl) (congrArg (fun b => b == true) (bfalse h25)) ?_
          refine W.guard false (w := (c23 == true)) (by kernel_rfl) (congrArg (fun b => b == true) (bfalse h25)) ?_
          refine W.guard false (w := (c23 == true)) (by kernel_rfl) (congrArg (fun b => b == true) (bfalse h25)) ?_
          refine W.opS (OpIs.pk false (t := c23) (x := (.tuple [])) (y := (.bool false)) (by kernel_rfl) (bfalse h25)) ?_
          refine W.adv 10 ?_
          exact W.fin (x := .ret) (by kernel_rfl) (LAns.of (d := (.bool false)) (by kernel_rfl) (by rw [H]))
      · refine W.cond true (w := (!(decide (c15t1 = 0)))) (by kernel_rfl) (congrArg (fun b => !b) (decide_eq_false h18)) ?_
        refine W.adv 10 ?_
        exact W.fin (x := .ret) (by kernel_rfl) (LAns.of (d := (.bool (decide (c13t1 = c15t1)))) (by kernel_rfl) (by rw [H]))
    · refine W.guard false (w := ((!(decide (c13t1 = 0))) == false)) (by kernel_rfl) (congrArg (fun b => b == false) (congrArg (fun b => !b) (decide_eq_false h17))) ?_
      refine W.guard false (w := ((!(decide (c13t1 = 0))) == false)) (by kernel_rfl) (congrArg (fun b => b == false) (congrArg (fun b => !b) (decide_eq_false h17))) ?_
      refine W.opS (OpIs.pk true (t := (!(decide (c13t1 = 0)))) (x := (.bool true)) (y := (.tuple [])) (by kernel_rfl) (congrArg (fun b => !b) (decide_eq_false h17))) ?_
      refine W.adv 13 ?_
      exact W.fin (x := .ret) (by kernel_rfl) (LAns.of (d := (.bool (decide (c13t1 = c15t1)))) (by kernel_rfl) (by rw [H]))
  · refine W.cond true (w := (!c1)) (by kernel_rfl) (congrArg (fun b => !b) (bfalse h3)) ?_
    refine W.adv 7 ?_
    exact W.fin (x := .ret) (by kernel_rfl) (LAns.of (d := (.bool false)) (by kernel_rfl) (by rw [H]))
end Go.Proofs.YteepbjndbemcdaaA
