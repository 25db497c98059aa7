/- Walks through the functions: what makes each relation true. -/
import Derived.Test.YtcmajlphfnihgaaW0
set_option linter.unusedVariables false
set_option maxRecDepth 100000
namespace Go.Proofs.YtcmajlphfnihgaaA
open Go Go.Proofs
/-! ### trivium/triviumlaw08.RatDivs -/
theorem law08_RatDivs_go {a0_0 : Bool} {a0_1 : List Int} {a0_2 : List Int} {a1_0 : Bool} {a1_1 : List Int} {a1_2 : List Int} {z : Bool} (H : (∃ c1_0 : Bool, (∃ c1_1 : List Int, (∃ c1_2 : List Int, (ref08_Clean_R a0_0 a0_1 a0_2 4 c1_0 c1_1 c1_2 ∧ (∃ c3_0 : Bool, (∃ c3_1 : List Int, (∃ c3_2 : List Int, (ref08_Clean_R a1_0 a1_1 a1_2 4 c3_0 c3_1 c3_2 ∧ (∃ c5_0 : Bool, (∃ c5_1 : List Int, (∃ c5_2 : List Int, (ref08_Of_R c1_0 c1_1 c1_2 c5_0 c5_1 c5_2 ∧ (∃ c7_0 : Bool, (∃ c7_1 : List Int, (∃ c7_2 : List Int, (ref08_Of_R c3_0 c3_1 c3_2 c7_0 c7_1 c7_2 ∧ (∃ c9t0_0 : Bool, (∃ c9t0_1 : List Int, (∃ c9t0_2 : List Int, (∃ c9t1 : Int, (rat_Div_R c1_0 c1_1 c1_2 c3_0 c3_1 c3_2 c9t0_0 c9t0_1 c9t0_2 c9t1 ∧ (∃ c11t0_0 : Bool, (∃ c11t0_1 : List Int, (∃ c11t0_2 : List Int, (∃ c11t1 : Int, (rat_Inv_R c3_0 c3_1 c3_2 c11t0_0 c11t0_1 c11t0_2 c11t1 ∧ (∃ c13 : Bool, (ref08_Zero_R c7_0 c7_1 c7_2 c13 ∧ ((c13 = true ∧ ((c9t1 = 3 ∧ ((c11t1 = c9t1 ∧ (∃ c18 : Bool, (law08_works_R c18 ∧ (z = c18)))) ∨ (¬ c11t1 = c9t1 ∧ (z = false)))) ∨ (¬ c9t1 = 3 ∧ (z = false)))) ∨ (¬ c13 = true ∧ ((c9t1 = 0 ∧ ((c11t1 = 0 ∧ (∃ c22_0 : Bool, (∃ c22_1 : List Int, (∃ c22_2 : List Int, (ref08_Div_R c5_0 c5_1 c5_2 c7_0 c7_1 c7_2 c22_0 c22_1 c22_2 ∧ (∃ c24_0 : Bool, (∃ c24_1 : List Int, (∃ c24_2 : List Int, (ref08_Back_R c22_0 c22_1 c22_2 c24_0 c24_1 c24_2 ∧ (∃ c26 : Bool, (ref08_Same_R c9t0_0 c9t0_1 c9t0_2 c24_0 c24_1 c24_2 c26 ∧ ((c26 = true ∧ (∃ c29_0 : Bool, (∃ c29_1 : List Int, (∃ c29_2 : List Int, (ref08_Inv_R c7_0 c7_1 c7_2 c29_0 c29_1 c29_2 ∧ (∃ c31_0 : Bool, (∃ c31_1 : List Int, (∃ c31_2 : List Int, (ref08_Back_R c29_0 c29_1 c29_2 c31_0 c31_1 c31_2 ∧ (∃ c33 : Bool, (ref08_Same_R c11t0_0 c11t0_1 c11t0_2 c31_0 c31_1 c31_2 c33 ∧ ((c33 = true ∧ (∃ c36_0 : Bool, (∃ c36_1 : List Int, (∃ c36_2 : List Int, (rat_Neg_R c1_0 c1_1 c1_2 c36_0 c36_1 c36_2 ∧ (∃ c38_0 : Bool, (∃ c38_1 : List Int, (∃ c38_2 : List Int, (ref08_Neg_R c5_0 c5_1 c5_2 c38_0 c38_1 c38_2 ∧ (∃ c40_0 : Bool, (∃ c40_1 : List Int, (∃ c40_2 : List Int, (ref08_Back_R c38_0 c38_1 c38_2 c40_0 c40_1 c40_2 ∧ (∃ c42 : Bool, (ref08_Same_R c36_0 c36_1 c36_2 c40_0 c40_1 c40_2 c42 ∧ ((c42 = true ∧ (∃ c45 : Bool, (law08_works_R c45 ∧ (z = c45)))) ∨ (¬ c42 = true ∧ (z = false)))))))))))))))))) ∨ (¬ c33 = true ∧ (z = false)))))))))))))) ∨ (¬ c26 = true ∧ (z = false)))))))))))))) ∨ (¬ c11t1 = 0 ∧ (z = false)))) ∨ (¬ c9t1 = 0 ∧ (z = false)))))))))))))))))))))))))))))))))) : law08_RatDivs_R a0_0 a0_1 a0_2 a1_0 a1_1 a1_2 z := by
  refine W.lawIs (zs := [(.agg [(.bool a0_0), (.ints .u64 a0_1), (.ints .u64 a0_2)]), (.agg [(.bool a1_0), (.ints .u64 a1_1), (.ints .u64 a1_2)])]) Try.func9 (by kernel_rfl) (by kernel_rfl) (by kernel_rfl) ?_
  refine W.adv 10 ?_
  obtain ⟨c1_0, c1_1, c1_2, hc2, H⟩ := H
  refine W.callR (g := 42) (ds := [(.agg [(.bool a0_0), (.ints .u64 a0_1), (.ints .u64 a0_2)]), (.int .i64 4)]) (es := [(.agg [(.bool a0_0), (.ints .u64 a0_1), (.ints .u64 a0_2)]), (.int .i64 4)]) (r := (.agg [(.bool c1_0), (.ints .u64 c1_1), (.ints .u64 c1_2)])) (by kernel_rfl) (by kernel_rfl) (Ic.args hc2 (by kernel_rfl)) (by kernel_rfl) ?_
  refine W.adv 1 ?_
  obtain ⟨c3_0, c3_1, c3_2, hc4, H⟩ := H
  refine W.callR (g := 42) (ds := [(.agg [(.bool a1_0), (.ints .u64 a1_1), (.ints .u64 a1_2)]), (.int .i64 4)]) (es := [(.agg [(.bool a1_0), (.ints .u64 a1_1), (.ints .u64 a1_2)]), (.int .i64 4)]) (r := (.agg [(.bool c3_0), (.ints .u64 c3_1), (.ints .u64 c3_2)])) (by kernel_rfl) (by kernel_rfl) (Ic.args hc4 (by kernel_rfl)) (by kernel_rfl) ?_
  refine W.adv 7 ?_
  obtain ⟨c5_0, c5_1, c5_2, hc6, H⟩ := H
  refine W.callR (g := 43) (ds := [(.agg [(.bool c1_0), (.ints .u64 c1_1), (.ints .u64 c1_2)])]) (es := [(.agg [(.bool c1_0), (.ints .u64 c1_1), (.ints .u64 c1_2)])]) (r := (.agg [(.bool c5_0), (.ints .i64 c5_1), (.ints .i64 c5_2)])) (by kernel_rfl) (by kernel_rfl) (Ic.args hc6 (by kernel_rfl)) (by kernel_rfl) ?_
  refine W.adv 1 ?_
  obtain ⟨c7_0, c7_1, c7_2, hc8, H⟩ := H
  refine W.callR (g := 43) (ds := [(.agg [(.bool c3_0), (.ints .u64 c3_1), (.ints .u64 c3_2)])]) (es := [(.agg [(.bool c3_0), (.ints .u64 c3_1), (.ints .u64 c3_2)])]) (r := (.agg [(.bool c7_0), (.ints .i64 c7_1), (.ints .i64 c7_2)])) (by kernel_rfl) (by kernel_rfl) (Ic.args hc8 (by kernel_rfl)) (by kernel_rfl) ?_
  refine W.adv 10 ?_
  obtain ⟨c9t0_0, c9t0_1, c9t0_2, c9t1, hc10, H⟩ := H
  refine W.callR (g := 44) (ds := [(.agg [(.bool c1_0), (.ints .u64 c1_1), (.ints .u64 c1_2)]), (.agg [(.bool c3_0), (.ints .u64 c3_1), (.ints .u64 c3_2)])]) (es := [(.agg [(.bool c1_0), (.ints .u64 c1_1), (.ints .u64 c1_2)]), (.agg [(.bool c3_0), (.ints .u64 c3_1), (.ints .u64 c3_2)])]) (r := (.tuple [(.agg [(.bool c9t0_0), (.ints .u64 c9t0_1), (.ints .u64 c9t0_2)]), (.int .i64 c9t1)])) (by kernel_rfl) (by kernel_rfl) (Ic.args hc10 (by kernel_rfl)) (by kernel_rfl) ?_
  refine W.adv 11 ?_
  obtain ⟨c11t0_0, c11t0_1, c11t0_2, c11t1, hc12, H⟩ := H
  refine W.callR (g := 45) (ds := [(.agg [(.bool c3_0), (.ints .u64 c3_1), (.ints .u64 c3_2)])]) (es := [(.agg [(.bool c3_0), (.ints .u64 c3_1), (.ints .u64 c3_2)])]) (r := (.tuple [(.agg [(.bool c11t0_0), (.ints .u64 c11t0_1), (.ints .u64 c11t0_2)]), (.int .i64 c11t1)])) (by kernel_rfl) (by kernel_rfl) (Ic.args hc12 (by kernel_rfl)) (by kernel_rfl) ?_
  refine W.adv 12 ?_
  obtain ⟨c13, hc14, H⟩ := H
  refine W.callR (g := 46) (ds := [(.agg [(.bool c7_0), (.ints .i64 c7_1), (.ints .i64 c7_2)])]) (es := [(.agg [(.bool c7_0), (.ints .i64 c7_1), (.ints .i64 c7_2)])]) (r := (.bool c13)) (by kernel_rfl) (by kernel_rfl) (Ic.args hc14 (by kernel_rfl)) (by kernel_rfl) ?_
  refine W.adv 2 ?_
  rcases H with ⟨h15, H⟩ | ⟨h15, H⟩
  · refine W.cond true (w := c13) (by kernel_rfl) h15 ?_
    refine W.adv 5 ?_
    rcases H with ⟨h16, H⟩ | ⟨h16, H⟩
    · refine W.guard true (w := ((decide (c9t1 = 3)) == true)) (by kernel_rfl) (congrArg (fun b => b == true) (decide_eq_true h16)) ?_
      refine W.adv 1 ?_
      refine W.guard true (w := ((decide (c9t1 = 3)) == true)) (by kernel_rfl) (congrArg (fun b => b == true) (decide_eq_true h16)) ?_
      refine W.adv 1 ?_
      refine W.guard true (w := ((decide (c9t1 = 3)) == true)) (by kernel_rfl) (congrArg (fun b => b == true) (decide_eq_true h16)) ?_
      refine W.adv 1 ?_
      refine W.opS (OpIs.pk true (t := (decide (c9t1 = 3))) (x := (.bool (decide (c11t1 = c9t1)))) (y := (.bool false)) (by kernel_rfl) (decide_eq_true h16)) ?_
      refine W.adv 1 ?_
      rcases H with ⟨h17, H⟩ | ⟨h17, H⟩
      · refine W.guard true (w := ((decide (c11t1 = c9t1)) == true)) (by kernel_rfl) (congrArg (fun b => b == true) (decide_eq_true h17)) ?_
        obtain ⟨c18, hc19, H⟩ := H
        refine W.callR (g := 31) (ds := []) (es := []) (r := (.bool c18)) (by kernel_rfl) (by kernel_rfl) (Ic.args hc19 (by kernel_rfl)) (by kernel_rfl) ?_
        refine W.opS (OpIs.pk true (t := (decide (c11t1 = c9t1))) (x := (.bool c18)) (y := (.bool false)) (by kernel_rfl) (decide_eq_true h17)) ?_
        refine W.adv 5 ?_
        exact W.fin (x := .ret) (by kernel_rfl) (LAns.of (d := (.bool c18)) (by kernel_rfl) (by rw [H]))
      · refine W.guard false (w := ((decide (c11t1 = c9t1)) == true)) (by kernel_rfl) (congrArg (fun b => b == true) (decide_eq_false h17)) ?_
        refine W.opS (OpIs.pk false (t := (decide (c11t1 = c9t1))) (x := (.tuple [])) (y := (.bool false)) (by kernel_rfl) (decide_eq_false h17)) ?_
        refine W.adv 5 ?_
        exact W.fin (x := .ret) (by kernel_rfl) (LAns.of (d := (.bool false)) (by kernel_rfl) (by rw [H]))
    · refine W.guard false (w := ((decide (c9t1 = 3)) == true)) (by kernel_rfl) (congrArg (fun b => b == true) (decide_eq_false h16)) ?_
      refine W.guard false (w := ((decide (c9t1 = 3)) == true)) (by kernel_rfl) (congrArg (fun b => b == true) (decide_eq_false h16)) ?_
      refine W.guard false (w := ((decide (c9t1 = 3)) == true)) (by kernel_rfl) (congrArg (fun b => b == true) (decide_eq_false h16)) ?_
      refine W.opS (OpIs.pk false (t := (decide (c9t1 = 3))) (x := (.tuple [])) (y := (.bool false)) (by kernel_rfl) (decide_eq_false h16)) ?_
      refine W.adv 8 ?_
      exact W.fin (x := .ret) (by kernel_rfl) (LAns.of (d := (.bool false)) (by kernel_rfl) (by rw [H]))
  · refine W.cond false (w := c13) (by kernel_rfl) (bfalse h15) ?_
    refine W.adv 7 ?_
    rcases H with ⟨h20, H⟩ | ⟨h20, H⟩
    · refine W.guard true (w := ((decide (c9t1 = 0)) == true)) (by kernel_rfl) (congrArg (fun b => b == true) (decide_eq_true h20)) ?_
      refine W.adv 1 ?_
      refine W.guard true (w := ((decide (c9t1 = 0)) == true)) (by kernel_rfl) (congrArg (fun b => b == true) (decide_eq_true h20)) ?_
      refine W.adv 1 ?_
      refine W.opS (OpIs.pk true (t := (decide (c9t1 = 0))) (x := (.bool (decide (c11t1 = 0)))) (y := (.bool false)) (by kernel_rfl) (decide_eq_true h20)) ?_
      refine W.adv 1 ?_
      rcases H with ⟨h21, H⟩ | ⟨h21, H⟩
      · refine W.guard true (w := ((decide (c11t1 = 0)) == true)) (by kernel_rfl) (congrArg (fun b => b == true) (decide_eq_true h21)) ?_
        refine W.adv 1 ?_
        refine W.guard true (w := ((decide (c11t1 = 0)) == true)) (by kernel_rfl) (congrArg (fun b => b == true) (decide_eq_true h21)) ?_
        refine W.adv 1 ?_
        refine W.guard true (w := ((decide (c11t1 = 0)) == true)) (by kernel_rfl) (congrArg (fun b => b == true) (decide_eq_true h21)) ?_
        refine W.adv 1 ?_
        refine W.guard true (w := ((decide (c11t1 = 0)) == true)) (by kernel_rfl) (congrArg (fun b => b == true) (decide_eq_true h21)) ?_
        obtain ⟨c22_0, c22_1, c22_2, hc23, H⟩ := H
        refine W.callR (g := 47) (ds := [(.agg [(.bool c5_0), (.ints .i64 c5_1), (.ints .i64 c5_2)]), (.agg [(.bool c7_0), (.ints .i64 c7_1), (.ints .i64 c7_2)])]) (es := [(.agg [(.bool c5_0), (.ints .i64 c5_1), (.ints .i64 c5_2)]), (.agg [(.bool c7_0), (.ints .i64 c7_1), (.ints .i64 c7_2)])]) (r := (.agg [(.bool c22_0), (.ints .i64 c22_1), (.ints .i64 c22_2)])) (by kernel_rfl) (by kernel_rfl) (Ic.args hc23 (by kernel_rfl)) (by kernel_rfl) ?_
        refine W.guard true (w := ((decide (c11t1 = 0)) == true)) (by kernel_rfl) (congrArg (fun b => b == true) (decide_eq_true h21)) ?_
        obtain ⟨c24_0, c24_1, c24_2, hc25, H⟩ := H
        refine W.callR (g := 32) (ds := [(.agg [(.bool c22_0), (.ints .i64 c22_1), (.ints .i64 c22_2)])]) (es := [(.agg [(.bool c22_0), (.ints .i64 c22_1), (.ints .i64 c22_2)])]) (r := (.agg [(.bool c24_0), (.ints .u64 c24_1), (.ints .u64 c24_2)])) (by kernel_rfl) (by kernel_rfl) (Ic.args hc25 (by kernel_rfl)) (by kernel_rfl) ?_
        refine W.guard true (w := ((decide (c11t1 = 0)) == true)) (by kernel_rfl) (congrArg (fun b => b == true) (decide_eq_true h21)) ?_
        obtain ⟨c26, hc27, H⟩ := H
        refine W.callR (g := 30) (ds := [(.agg [(.bool c9t0_0), (.ints .u64 c9t0_1), (.ints .u64 c9t0_2)]), (.agg [(.bool c24_0), (.ints .u64 c24_1), (.ints .u64 c24_2)])]) (es := [(.agg [(.bool c9t0_0), (.ints .u64 c9t0_1), (.ints .u64 c9t0_2)]), (.agg [(.bool c24_0), (.ints .u64 c24_1), (.ints .u64 c24_2)])]) (r := (.bool c26)) (by kernel_rfl) (by kernel_rfl) (Ic.args hc27 (by kernel_rfl)) (by kernel_rfl) ?_
        refine W.opS (OpIs.pk true (t := (decide (c11t1 = 0))) (x := (.bool c26)) (y := (.bool false)) (by kernel_rfl) (decide_eq_true h21)) ?_
        refine W.adv 1 ?_
        rcases H with ⟨h28, H⟩ | ⟨h28, H⟩
        · refine W.guard true (w := (c26 == true)) (by kernel_rfl) (congrArg (fun b => b == true) h28) ?_
          refine W.adv 1 ?_
          refine W.guard true (w := (c26 == true)) (by kernel_rfl) (congrArg (fun b => b == true) h28) ?_
          refine W.adv 1 ?_
          refine W.guard true (w := (c26 == true)) (by kernel_rfl) (congrArg (fun b => b == true) h28) ?_
          obtain ⟨c29_0, c29_1, c29_2, hc30, H⟩ := H
          refine W.callR (g := 48) (ds := [(.agg [(.bool c7_0), (.ints .i64 c7_1), (.ints .i64 c7_2)])]) (es := [(.agg [(.bool c7_0), (.ints .i64 c7_1), (.ints .i64 c7_2)])]) (r := (.agg [(.bool c29_0), (.ints .i64 c29_1), (.ints .i64 c29_2)])) (by kernel_rfl) (by kernel_rfl) (Ic.args hc30 (by kernel_rfl)) (by kernel_rfl) ?_
          refine W.guard true (w := (c26 == true)) (by kernel_rfl) (congrArg (fun b => b == true) h28) ?_
          obtain ⟨c31_0, c31_1, c31_2, hc32, H⟩ := H
          refine W.callR (g := 32) (ds := [(.agg [(.bool c29_0), (.ints .i64 c29_1), (.ints .i64 c29_2)])]) (es := [(.agg [(.bool c29_0), (.ints .i64 c29_1), (.ints .i64 c29_2)])]) (r := (.agg [(.bool c31_0), (.ints .u64 c31_1), (.ints .u64 c31_2)])) (by kernel_rfl) (by kernel_rfl) (Ic.args hc32 (by kernel_rfl)) (by kernel_rfl) ?_
          refine W.guard true (w := (c26 == true)) (by kernel_rfl) (congrArg (fun b => b == true) h28) ?_
          obtain ⟨c33, hc34, H⟩ := H
          refine W.callR (g := 30) (ds := [(.agg [(.bool c11t0_0), (.ints .u64 c11t0_1), (.ints .u64 c11t0_2)]), (.agg [(.bool c31_0), (.ints .u64 c31_1), (.ints .u64 c31_2)])]) (es := [(.agg [(.bool c11t0_0), (.ints .u64 c11t0_1), (.ints .u64 c11t0_2)]), (.agg [(.bool c31_0), (.ints .u64 c31_1), (.ints .u64 c31_2)])]) (r := (.bool c33)) (by kernel_rfl) (by kernel_rfl) (Ic.args hc34 (by kernel_rfl)) (by kernel_rfl) ?_
          refine W.opS (OpIs.pk true (t := c26) (x := (.bool c33)) (y := (.bool false)) (by kernel_rfl) h28) ?_
          refine W.adv 1 ?_
          rcases H with ⟨h35, H⟩ | ⟨h35, H⟩
          · refine W.guard true (w := (c33 == true)) (by kernel_rfl) (congrArg (fun b => b == true) h35) ?_
            refine W.adv 1 ?_
            refine W.guard true (w := (c33 == true)) (by kernel_rfl) (congrArg (fun b => b == true) h35) ?_
            obtain ⟨c36_0, c36_1, c36_2, hc37, H⟩ := H
            refine W.callR (g := 49) (ds := [(.agg [(.bool c1_0), (.ints .u64 c1_1), (.ints .u64 c1_2)])]) (es := [(.agg [(.bool c1_0), (.ints .u64 c1_1), (.ints .u64 c1_2)])]) (r := (.agg [(.bool c36_0), (.ints .u64 c36_1), (.ints .u64 c36_2)])) (by kernel_rfl) (by kernel_rfl) (Ic.args hc37 (by kernel_rfl)) (by kernel_rfl) ?_
            refine W.guard true (w := (c33 == true)) (by kernel_rfl) (congrArg (fun b => b == true) h35) ?_
            refine W.adv 1 ?_
            refine W.guard true (w := (c33 == true)) (by kernel_rfl) (congrArg (fun b => b == true) h35) ?_
            obtain ⟨c38_0, c38_1, c38_2, hc39, H⟩ := H
            refine W.callR (g := 50) (ds := [(.agg [(.bool c5_0), (.ints .i64 c5_1), (.ints .i64 c5_2)])]) (es := [(.agg [(.bool c5_0), (.ints .i64 c5_1), (.ints .i64 c5_2)])]) (r := (.agg [(.bool c38_0), (.ints .i64 c38_1), (.ints .i64 c38_2)])) (by kernel_rfl) (by kernel_rfl) (Ic.args hc39 (by kernel_rfl)) (by kernel_rfl) ?_
            refine W.guard true (w := (c33 == true)) (by kernel_rfl) (congrArg (fun b => b == true) h35) ?_
            obtain ⟨c40_0, c40_1, c40_2, hc41, H⟩ := H
            refine W.callR (g := 32) (ds := [(.agg [(.bool c38_0), (.ints .i64 c38_1), (.ints .i64 c38_2)])]) (es := [(.agg [(.bool c38_0), (.ints .i64 c38_1), (.ints .i64 c38_2)])]) (r := (.agg [(.bool c40_0), (.ints .u64 c40_1), (.ints .u64 c40_2)])) (by kernel_rfl) (by kernel_rfl) (Ic.args hc41 (by kernel_rfl)) (by kernel_rfl) ?_
            refine W.guard true (w := (c33 == true)) (by kernel_rfl) (congrArg (fun b => b == true) h35) ?_
            obtain ⟨c42, hc43, H⟩ := H
            refine W.callR (g := 30) (ds := [(.agg [(.bool c36_0), (.ints .u64 c36_1), (.ints .u64 c36_2)]), (.agg [(.bool c40_0), (.ints .u64 c40_1), (.ints .u64 c40_2)])]) (es := [(.agg [(.bool c36_0), (.ints .u64 c36_1), (.ints .u64 c36_2)]), (.agg [(.bool c40_0), (.ints .u64 c40_1), (.ints .u64 c40_2)])]) (r := (.bool c42)) (by kernel_rfl) (by kernel_rfl) (Ic.args hc43 (by kernel_rfl)) (by kernel_rfl) ?_
            refine W.opS (OpIs.pk true (t := c33) (x := (.bool c42)) (y := (.bool false)) (by kernel_rfl) h35) ?_
            refine W.adv 1 ?_
            rcases H with ⟨h44, H⟩ | ⟨h44, H⟩
            · refine W.guard true (w := (c42 == true)) (by kernel_rfl) (congrArg (fun b => b == true) h44) ?_
              obtain ⟨c45, hc46, H⟩ := H
              refine W.callR (g := 31) (ds := []) (es := []) (r := (.bool c45)) (by kernel_rfl) (by kernel_rfl) (Ic.args hc46 (by kernel_rfl)) (by kernel_rfl) ?_
              refine W.opS (OpIs.pk true (t := c42) (x := (.bool c45)) (y := (.bool false)) (by kernel_rfl) h44) ?_
              refine W.adv 4 ?_
              exact W.fin (x := .ret) (by kernel_rfl) (LAns.of (d := (.bool c45)) (by kernel_rfl) (by rw [H]))
            · refine W.guard false (w := (c42 == true)) (by kernel_rfl) (congrArg (fun b => b == true) (bfalse h44)) ?_
              refine W.opS (OpIs.pk false (t := c42) (x := (.tuple [])) (y := (.bool false)) (by kernel_rfl) (bfalse h44)) ?_
              refine W.adv 4 ?_
              exact W.fin (x := .ret) (by kernel_rfl) (LAns.of (d := (.bool false)) (by kernel_rfl) (by rw [H]))
          · refine W.guard false (w := (c33 == true)) (by kernel_rfl) (congrArg (fun b => b == true) (bfalse h35)) ?_
            refine W.guard false (w := (c33 == true)) (by kernel_rfl) (congrArg (fun b => b == true) (bfalse h35)) ?_
            refine W.guard false (w := (c33 == true)) (by kernel_rfl) (congrArg (fun b => b == true) (bfalse h35)) ?_
            refine W.guard false (w := (c33 == true)) (by kernel_rfl) (congrArg (fun b => b == true) (bfalse h35)) ?_
            refine W.guard false (w := (c33 == true)) (by kernel_rfl) (congrArg (fun b => b == true) (bfalse h35)) ?_
            refine W.guard false (w := (c33 == true)) (by kernel_rfl) (congrArg (fun b => b == true) (bfalse h35)) ?_
            refine W.opS (OpIs.pk false (t := c33) (x := (.tuple [])) (y := (.bool false)) (by kernel_rfl) (bfalse h35)) ?_
            refine W.adv 7 ?_
            exact W.fin (x := .ret) (by kernel_rfl) (LAns.of (d := (.bool false)) (by kernel_rfl) (by rw [H]))
        · refine W.guard false (w := (c26 == true)) (by kernel_rfl) (congrArg (fun b => b == true) (bfalse h28)) ?_
          refine W.guard false (w := (c26 == true)) (by kernel_rfl) (congrArg (fun b => b == true) (bfalse h28)) ?_
          refine W.guard false (w := (c26 == true)) (by kernel_rfl) (congrArg (fun b => b == true) (bfalse h28)) ?_
          refine W.guard false (w := (c26 == true)) (by kernel_rfl) (congrArg (fun b => b == true) (bfalse h28)) ?_
          refine W.guard false (w := (c26 == true)) (by kernel_rfl) (congrArg (fun b => b == true) (bfalse h28)) ?_
          refine W.opS (OpIs.pk false (t := c26) (x := (.tuple [])) (y := (.bool false)) (by kernel_rfl) (bfalse h28)) ?_
          refine W.adv 15 ?_
          exact W.fin (x := .ret) (by kernel_rfl) (LAns.of (d := (.bool false)) (by kernel_rfl) (by rw [H]))
      · refine W.guard false (w := ((decide (c11t1 = 0)) == true)) (by kernel_rfl) (congrArg (fun b => b == true) (decide_eq_false h21)) ?_
        refine W.guard false (w := ((decide (c11t1 = 0)) == true)) (by kernel_rfl) (congrArg (fun b => b == true) (decide_eq_false h21)) ?_
        refine W.guard false (w := ((decide (c11t1 = 0)) == true)) (by kernel_rfl) (congrArg (fun b => b == true) (decide_eq_false h21)) ?_
        refine W.guard false (w := ((decide (c11t1 = 0)) == true)) (by kernel_rfl) (congrArg (fun b => b == true) (decide_eq_false h21)) ?_
        refine W.guard false (w := ((decide (c11t1 = 0)) == true)) (by kernel_rfl) (congrArg (fun b => b == true) (decide_eq_false h21)) ?_
        refine W.guard false (w := ((decide (c11t1 = 0)) == true)) (by kernel_rfl) (congrArg (fun b => b == true) (decide_eq_false h21)) ?_
        refine W.opS (OpIs.pk false (t := (decide (c11t1 = 0))) (x := (.tuple [])) (y := (.bool false)) (by kernel_rfl) (decide_eq_false h21)) ?_
        refine W.adv 22 ?_
        exact W.fin (x := .ret) (by kernel_rfl) (LAns.of (d := (.bool false)) (by kernel_rfl) (by rw [H]))
    · refine W.guard false (w := ((decide (c9t1 = 0)) == true)) (by kernel_rfl) (congrArg (fun b => b == true) (decide_eq_false h20)) ?_
      refine W.guard false (w := ((decide (c9t1 = 0)) == true)) (by kernel_rfl) (congrArg (fun b => b == true) (decide_eq_false h20)) ?_
      refine W.opS (OpIs.pk false (t := (decide (c9t1 = 0))) (x := (.tuple [])) (y := (.bool false)) (by kernel_rfl) (decide_eq_false h20)) ?_
      refine W.adv 30 ?_
      exact W.fin (x := .ret) (by kernel_rfl) (LAns.of (d := (.bool false)) (by kernel_rfl) (by rw [H]))
end Go.Proofs.YtcmajlphfnihgaaA
