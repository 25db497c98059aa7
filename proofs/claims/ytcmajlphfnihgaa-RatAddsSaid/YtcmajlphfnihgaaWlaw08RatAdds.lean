/- Walks through the functions: what makes each relation true. -/
import Derived.Test.YtcmajlphfnihgaaW0
set_option linter.unusedVariables false
set_option maxRecDepth 100000
namespace Go.Proofs.YtcmajlphfnihgaaA
open Go Go.Proofs
/-! ### trivium/triviumlaw08.RatAdds -/
theorem law08_RatAdds_go {a0_0 : Bool} {a0_1 : List Int} {a0_2 : List Int} {a1_0 : Bool} {a1_1 : List Int} {a1_2 : List Int} {z : Bool} (H : (∃ c1_0 : Bool, (∃ c1_1 : List Int, (∃ c1_2 : List Int, (ref08_Clean_R a0_0 a0_1 a0_2 4 c1_0 c1_1 c1_2 ∧ (∃ c3_0 : Bool, (∃ c3_1 : List Int, (∃ c3_2 : List Int, (ref08_Clean_R a1_0 a1_1 a1_2 4 c3_0 c3_1 c3_2 ∧ (∃ c5_0 : Bool, (∃ c5_1 : List Int, (∃ c5_2 : List Int, (ref08_Of_R c1_0 c1_1 c1_2 c5_0 c5_1 c5_2 ∧ (∃ c7_0 : Bool, (∃ c7_1 : List Int, (∃ c7_2 : List Int, (ref08_Of_R c3_0 c3_1 c3_2 c7_0 c7_1 c7_2 ∧ (∃ c9_0 : Bool, (∃ c9_1 : List Int, (∃ c9_2 : List Int, (rat_Add_R c1_0 c1_1 c1_2 c3_0 c3_1 c3_2 c9_0 c9_1 c9_2 ∧ (∃ c11_0 : Bool, (∃ c11_1 : List Int, (∃ c11_2 : List Int, (ref08_Add_R c5_0 c5_1 c5_2 c7_0 c7_1 c7_2 c11_0 c11_1 c11_2 ∧ (∃ c13_0 : Bool, (∃ c13_1 : List Int, (∃ c13_2 : List Int, (ref08_Back_R c11_0 c11_1 c11_2 c13_0 c13_1 c13_2 ∧ (∃ c15 : Bool, (ref08_Same_R c9_0 c9_1 c9_2 c13_0 c13_1 c13_2 c15 ∧ ((c15 = true ∧ (∃ c18_0 : Bool, (∃ c18_1 : List Int, (∃ c18_2 : List Int, (rat_Sub_R c1_0 c1_1 c1_2 c3_0 c3_1 c3_2 c18_0 c18_1 c18_2 ∧ (∃ c20_0 : Bool, (∃ c20_1 : List Int, (∃ c20_2 : List Int, (ref08_Sub_R c5_0 c5_1 c5_2 c7_0 c7_1 c7_2 c20_0 c20_1 c20_2 ∧ (∃ c22_0 : Bool, (∃ c22_1 : List Int, (∃ c22_2 : List Int, (ref08_Back_R c20_0 c20_1 c20_2 c22_0 c22_1 c22_2 ∧ (∃ c24 : Bool, (ref08_Same_R c18_0 c18_1 c18_2 c22_0 c22_1 c22_2 c24 ∧ ((c24 = true ∧ (∃ c27_0 : Bool, (∃ c27_1 : List Int, (∃ c27_2 : List Int, (rat_Mul_R c1_0 c1_1 c1_2 c3_0 c3_1 c3_2 c27_0 c27_1 c27_2 ∧ (∃ c29_0 : Bool, (∃ c29_1 : List Int, (∃ c29_2 : List Int, (ref08_Mul_R c5_0 c5_1 c5_2 c7_0 c7_1 c7_2 c29_0 c29_1 c29_2 ∧ (∃ c31_0 : Bool, (∃ c31_1 : List Int, (∃ c31_2 : List Int, (ref08_Back_R c29_0 c29_1 c29_2 c31_0 c31_1 c31_2 ∧ (∃ c33 : Bool, (ref08_Same_R c27_0 c27_1 c27_2 c31_0 c31_1 c31_2 c33 ∧ ((c33 = true ∧ (∃ c36 : Int, (rat_Cmp_R c1_0 c1_1 c1_2 c3_0 c3_1 c3_2 c36 ∧ (∃ c38 : Int, (ref08_Cmp_R c5_0 c5_1 c5_2 c7_0 c7_1 c7_2 c38 ∧ ((c36 = c38 ∧ (∃ c41 : Int, (rat_Sign_R c1_0 c1_1 c1_2 c41 ∧ (∃ c43 : Int, (ref08_Sign_R c5_0 c5_1 c5_2 c43 ∧ ((c41 = c43 ∧ (∃ c46 : Bool, (rat_Same_R c1_0 c1_1 c1_2 c3_0 c3_1 c3_2 c46 ∧ (∃ c48 : Bool, (ref08_Same_R c1_0 c1_1 c1_2 c3_0 c3_1 c3_2 c48 ∧ ((c46 = true ∧ ((c48 = true ∧ (∃ c52 : Bool, (law08_works_R c52 ∧ (z = c52)))) ∨ (¬ c48 = true ∧ (z = false)))) ∨ (¬ c46 = true ∧ ((c48 = true ∧ (z = false)) ∨ (¬ c48 = true ∧ (∃ c55 : Bool, (law08_works_R c55 ∧ (z = c55)))))))))))) ∨ (¬ c41 = c43 ∧ (z = false)))))))) ∨ (¬ c36 = c38 ∧ (z = false)))))))) ∨ (¬ c33 = true ∧ (z = false)))))))))))))))))) ∨ (¬ c24 = true ∧ (z = false)))))))))))))))))) ∨ (¬ c15 = true ∧ (z = false)))))))))))))))))))))))))))))))))) : law08_RatAdds_R a0_0 a0_1 a0_2 a1_0 a1_1 a1_2 z := by
  refine W.lawIs (zs := [(.agg [(.bool a0_0), (.ints .u64 a0_1), (.ints .u64 a0_2)]), (.agg [(.bool a1_0), (.ints .u64 a1_1), (.ints .u64 a1_2)])]) Try.func10 (by kernel_rfl) (by kernel_rfl) (by kernel_rfl) ?_
  refine W.adv 10 ?_
  obtain ⟨c1_0, c1_1, c1_2, hc2, H⟩ := H
  refine W.callR (g := 42) (ds := [(.agg [(.bool a0_0), (.ints .u64 a0_1), (.ints .u64 a0_2)]), (.int .i64 4)]) (es := [(.agg [(.bool a0_0), (.ints .u64 a0_1), (.ints .u64 a0_2)]), (.int .i64 4)]) (r := (.agg [(.bool c1_0), (.ints .u64 c1_1), (.ints .u64 c1_2)])) (by kernel_rfl) (by kernel_rfl) (Ic.args hc2 (by kernel_rfl)) (by kernel_rfl) ?_
  refine W.adv 1 ?_
  obtain ⟨c3_0, c3_1, c3_2, hc4, H⟩ := H
  refine W.callR (g := 42) (ds := [(.agg [(.bool a1_0), (.ints .u64 a1_1), (.ints .u64 a1_2)]), (.int .i64 4)]) (es := [(.agg [(.bool a1_0), (.ints .u64 a1_1), (.ints .u64 a1_2)]), (.int .i64 4)]) (r := (.agg [(.bool c3_0), (.ints .u64 c3_1), (.ints .u64 c3_2)])) (by kernel_rfl) (by kernel_rfl) (Ic.args hc4 (by kernel_rfl)) (by kernel_rfl) ?_
  refine W.adv 7 ?_
  obtain ⟨c5_0, c5_1, c5_2, hc6, H⟩ := H
  refine W.callR (g := 43) (ds := [(.agg [(.bool c1_0), (.ints .u64 c1_1), (.ints .u64 c1_2)])]) (es := [(.agg [(.bool c1_0), (.ints .u64 c1_1), (.ints .u64 c1_2)])]) (r := (.agg [(.bool c5_0), (.ints .i64 c5_1), (.ints .i64 c5_2)])) (by kernel_rfl) (by kernel_rfl) (Ic.args hc6 (by kernel_rfl)) (by kernel_rfl) ?_
  refine W.adv 1 ?_
  obtain ⟨c7_0, c7_1, c7_2, hc8, H⟩ := H
  refine W.callR (g := 43) (ds := [(.agg [(.bool c3_0), (.ints .u64 c3_1), (.ints .u64 c3_2)])]) (es := [(.agg [(.bool c3_0), (.ints .u64 c3_1), (.ints .u64 c3_2)])]) (r := (.agg [(.bool c7_0), (.ints .i64 c7_1), (.ints .i64 c7_2)])) (by kernel_rfl) (by kernel_rfl) (Ic.args hc8 (by kernel_rfl)) (by kernel_rfl) ?_
  refine W.adv 10 ?_
  obtain ⟨c9_0, c9_1, c9_2, hc10, H⟩ := H
  refine W.callR (g := 51) (ds := [(.agg [(.bool c1_0), (.ints .u64 c1_1), (.ints .u64 c1_2)]), (.agg [(.bool c3_0), (.ints .u64 c3_1), (.ints .u64 c3_2)])]) (es := [(.agg [(.bool c1_0), (.ints .u64 c1_1), (.ints .u64 c1_2)]), (.agg [(.bool c3_0), (.ints .u64 c3_1), (.ints .u64 c3_2)])]) (r := (.agg [(.bool c9_0), (.ints .u64 c9_1), (.ints .u64 c9_2)])) (by kernel_rfl) (by kernel_rfl) (Ic.args hc10 (by kernel_rfl)) (by kernel_rfl) ?_
  refine W.adv 2 ?_
  obtain ⟨c11_0, c11_1, c11_2, hc12, H⟩ := H
  refine W.callR (g := 52) (ds := [(.agg [(.bool c5_0), (.ints .i64 c5_1), (.ints .i64 c5_2)]), (.agg [(.bool c7_0), (.ints .i64 c7_1), (.ints .i64 c7_2)])]) (es := [(.agg [(.bool c5_0), (.ints .i64 c5_1), (.ints .i64 c5_2)]), (.agg [(.bool c7_0), (.ints .i64 c7_1), (.ints .i64 c7_2)])]) (r := (.agg [(.bool c11_0), (.ints .i64 c11_1), (.ints .i64 c11_2)])) (by kernel_rfl) (by kernel_rfl) (Ic.args hc12 (by kernel_rfl)) (by kernel_rfl) ?_
  obtain ⟨c13_0, c13_1, c13_2, hc14, H⟩ := H
  refine W.callR (g := 32) (ds := [(.agg [(.bool c11_0), (.ints .i64 c11_1), (.ints .i64 c11_2)])]) (es := [(.agg [(.bool c11_0), (.ints .i64 c11_1), (.ints .i64 c11_2)])]) (r := (.agg [(.bool c13_0), (.ints .u64 c13_1), (.ints .u64 c13_2)])) (by kernel_rfl) (by kernel_rfl) (Ic.args hc14 (by kernel_rfl)) (by kernel_rfl) ?_
  obtain ⟨c15, hc16, H⟩ := H
  refine W.callR (g := 30) (ds := [(.agg [(.bool c9_0), (.ints .u64 c9_1), (.ints .u64 c9_2)]), (.agg [(.bool c13_0), (.ints .u64 c13_1), (.ints .u64 c13_2)])]) (es := [(.agg [(.bool c9_0), (.ints .u64 c9_1), (.ints .u64 c9_2)]), (.agg [(.bool c13_0), (.ints .u64 c13_1), (.ints .u64 c13_2)])]) (r := (.bool c15)) (by kernel_rfl) (by kernel_rfl) (Ic.args hc16 (by kernel_rfl)) (by kernel_rfl) ?_
  refine W.adv 1 ?_
  rcases H with ⟨h17, H⟩ | ⟨h17, H⟩
  · refine W.guard true (w := (c15 == true)) (by kernel_rfl) (congrArg (fun b => b == true) h17) ?_
    refine W.adv 1 ?_
    refine W.guard true (w := (c15 == true)) (by kernel_rfl) (congrArg (fun b => b == true) h17) ?_
    refine W.adv 1 ?_
    refine W.guard true (w := (c15 == true)) (by kernel_rfl) (congrArg (fun b => b == true) h17) ?_
    obtain ⟨c18_0, c18_1, c18_2, hc19, H⟩ := H
    refine W.callR (g := 53) (ds := [(.agg [(.bool c1_0), (.ints .u64 c1_1), (.ints .u64 c1_2)]), (.agg [(.bool c3_0), (.ints .u64 c3_1), (.ints .u64 c3_2)])]) (es := [(.agg [(.bool c1_0), (.ints .u64 c1_1), (.ints .u64 c1_2)]), (.agg [(.bool c3_0), (.ints .u64 c3_1), (.ints .u64 c3_2)])]) (r := (.agg [(.bool c18_0), (.ints .u64 c18_1), (.ints .u64 c18_2)])) (by kernel_rfl) (by kernel_rfl) (Ic.args hc19 (by kernel_rfl)) (by kernel_rfl) ?_
    refine W.guard true (w := (c15 == true)) (by kernel_rfl) (congrArg (fun b => b == true) h17) ?_
    refine W.adv 1 ?_
    refine W.guard true (w := (c15 == true)) (by kernel_rfl) (congrArg (fun b => b == true) h17) ?_
    refine W.adv 1 ?_
    refine W.guard true (w := (c15 == true)) (by kernel_rfl) (congrArg (fun b => b == true) h17) ?_
    obtain ⟨c20_0, c20_1, c20_2, hc21, H⟩ := H
    refine W.callR (g := 54) (ds := [(.agg [(.bool c5_0), (.ints .i64 c5_1), (.ints .i64 c5_2)]), (.agg [(.bool c7_0), (.ints .i64 c7_1), (.ints .i64 c7_2)])]) (es := [(.agg [(.bool c5_0), (.ints .i64 c5_1), (.ints .i64 c5_2)]), (.agg [(.bool c7_0), (.ints .i64 c7_1), (.ints .i64 c7_2)])]) (r := (.agg [(.bool c20_0), (.ints .i64 c20_1), (.ints .i64 c20_2)])) (by kernel_rfl) (by kernel_rfl) (Ic.args hc21 (by kernel_rfl)) (by kernel_rfl) ?_
    refine W.guard true (w := (c15 == true)) (by kernel_rfl) (congrArg (fun b => b == true) h17) ?_
    obtain ⟨c22_0, c22_1, c22_2, hc23, H⟩ := H
    refine W.callR (g := 32) (ds := [(.agg [(.bool c20_0), (.ints .i64 c20_1), (.ints .i64 c20_2)])]) (es := [(.agg [(.bool c20_0), (.ints .i64 c20_1), (.ints .i64 c20_2)])]) (r := (.agg [(.bool c22_0), (.ints .u64 c22_1), (.ints .u64 c22_2)])) (by kernel_rfl) (by kernel_rfl) (Ic.args hc23 (by kernel_rfl)) (by kernel_rfl) ?_
    refine W.guard true (w := (c15 == true)) (by kernel_rfl) (congrArg (fun b => b == true) h17) ?_
    obtain ⟨c24, hc25, H⟩ := H
    refine W.callR (g := 30) (ds := [(.agg [(.bool c18_0), (.ints .u64 c18_1), (.ints .u64 c18_2)]), (.agg [(.bool c22_0), (.ints .u64 c22_1), (.ints .u64 c22_2)])]) (es := [(.agg [(.bool c18_0), (.ints .u64 c18_1), (.ints .u64 c18_2)]), (.agg [(.bool c22_0), (.ints .u64 c22_1), (.ints .u64 c22_2)])]) (r := (.bool c24)) (by kernel_rfl) (by kernel_rfl) (Ic.args hc25 (by kernel_rfl)) (by kernel_rfl) ?_
    refine W.opS (OpIs.pk true (t := c15) (x := (.bool c24)) (y := (.bool false)) (by kernel_rfl) h17) ?_
    refine W.adv 1 ?_
    rcases H with ⟨h26, H⟩ | ⟨h26, H⟩
    · refine W.guard true (w := (c24 == true)) (by kernel_rfl) (congrArg (fun b => b == true) h26) ?_
      refine W.adv 1 ?_
      refine W.guard true (w := (c24 == true)) (by kernel_rfl) (congrArg (fun b => b == true) h26) ?_
      refine W.adv 1 ?_
      refine W.guard true (w := (c24 == true)) (by kernel_rfl) (congrArg (fun b => b == true) h26) ?_
      obtain ⟨c27_0, c27_1, c27_2, hc28, H⟩ := H
      refine W.callR (g := 55) (ds := [(.agg [(.bool c1_0), (.ints .u64 c1_1), (.ints .u64 c1_2)]), (.agg [(.bool c3_0), (.ints .u64 c3_1), (.ints .u64 c3_2)])]) (es := [(.agg [(.bool c1_0), (.ints .u64 c1_1), (.ints .u64 c1_2)]), (.agg [(.bool c3_0), (.ints .u64 c3_1), (.ints .u64 c3_2)])]) (r := (.agg [(.bool c27_0), (.ints .u64 c27_1), (.ints .u64 c27_2)])) (by kernel_rfl) (by kernel_rfl) (Ic.args hc28 (by kernel_rfl)) (by kernel_rfl) ?_
      refine W.guard true (w := (c24 == true)) (by kernel_rfl) (congrArg (fun b => b == true) h26) ?_
      refine W.adv 1 ?_
      refine W.guard true (w := (c24 == true)) (by kernel_rfl) (congrArg (fun b => b == true) h26) ?_
      refine W.adv 1 ?_
      refine W.guard true (w := (c24 == true)) (by kernel_rfl) (congrArg (fun b => b == true) h26) ?_
      obtain ⟨c29_0, c29_1, c29_2, hc30, H⟩ := H
      refine W.callR (g := 56) (ds := [(.agg [(.bool c5_0), (.ints .i64 c5_1), (.ints .i64 c5_2)]), (.agg [(.bool c7_0), (.ints .i64 c7_1), (.ints .i64 c7_2)])]) (es := [(.agg [(.bool c5_0), (.ints .i64 c5_1), (.ints .i64 c5_2)]), (.agg [(.bool c7_0), (.ints .i64 c7_1), (.ints .i64 c7_2)])]) (r := (.agg [(.bool c29_0), (.ints .i64 c29_1), (.ints .i64 c29_2)])) (by kernel_rfl) (by kernel_rfl) (Ic.args hc30 (by kernel_rfl)) (by kernel_rfl) ?_
      refine W.guard true (w := (c24 == true)) (by kernel_rfl) (congrArg (fun b => b == true) h26) ?_
      obtain ⟨c31_0, c31_1, c31_2, hc32, H⟩ := H
      refine W.callR (g := 32) (ds := [(.agg [(.bool c29_0), (.ints .i64 c29_1), (.ints .i64 c29_2)])]) (es := [(.agg [(.bool c29_0), (.ints .i64 c29_1), (.ints .i64 c29_2)])]) (r := (.agg [(.bool c31_0), (.ints .u64 c31_1), (.ints .u64 c31_2)])) (by kernel_rfl) (by kernel_rfl) (Ic.args hc32 (by kernel_rfl)) (by kernel_rfl) ?_
      refine W.guard true (w := (c24 == true)) (by kernel_rfl) (congrArg (fun b => b == true) h26) ?_
      obtain ⟨c33, hc34, H⟩ := H
      refine W.callR (g := 30) (ds := [(.agg [(.bool c27_0), (.ints .u64 c27_1), (.ints .u64 c27_2)]), (.agg [(.bool c31_0), (.ints .u64 c31_1), (.ints .u64 c31_2)])]) (es := [(.agg [(.bool c27_0), (.ints .u64 c27_1), (.ints .u64 c27_2)]), (.agg [(.bool c31_0), (.ints .u64 c31_1), (.ints .u64 c31_2)])]) (r := (.bool c33)) (by kernel_rfl) (by kernel_rfl) (Ic.args hc34 (by kernel_rfl)) (by kernel_rfl) ?_
      refine W.opS (OpIs.pk true (t := c24) (x := (.bool c33)) (y := (.bool false)) (by kernel_rfl) h26) ?_
      refine W.adv 1 ?_
      rcases H with ⟨h35, H⟩ | ⟨h35, H⟩
      · refine W.guard true (w := (c33 == true)) (by kernel_rfl) (congrArg (fun b => b == true) h35) ?_
        refine W.adv 1 ?_
        refine W.guard true (w := (c33 == true)) (by kernel_rfl) (congrArg (fun b => b == true) h35) ?_
        refine W.adv 1 ?_
        refine W.guard true (w := (c33 == true)) (by kernel_rfl) (congrArg (fun b => b == true) h35) ?_
        obtain ⟨c36, hc37, H⟩ := H
        refine W.callR (g := 57) (ds := [(.agg [(.bool c1_0), (.ints .u64 c1_1), (.ints .u64 c1_2)]), (.agg [(.bool c3_0), (.ints .u64 c3_1), (.ints .u64 c3_2)])]) (es := [(.agg [(.bool c1_0), (.ints .u64 c1_1), (.ints .u64 c1_2)]), (.agg [(.bool c3_0), (.ints .u64 c3_1), (.ints .u64 c3_2)])]) (r := (.int .i64 c36)) (by kernel_rfl) (by kernel_rfl) (Ic.args hc37 (by kernel_rfl)) (by kernel_rfl) ?_
        refine W.guard true (w := (c33 == true)) (by kernel_rfl) (congrArg (fun b => b == true) h35) ?_
        refine W.adv 1 ?_
        refine W.guard true (w := (c33 == true)) (by kernel_rfl) (congrArg (fun b => b == true) h35) ?_
        refine W.adv 1 ?_
        refine W.guard true (w := (c33 == true)) (by kernel_rfl) (congrArg (fun b => b == true) h35) ?_
        obtain ⟨c38, hc39, H⟩ := H
        refine W.callR (g := 58) (ds := [(.agg [(.bool c5_0), (.ints .i64 c5_1), (.ints .i64 c5_2)]), (.agg [(.bool c7_0), (.ints .i64 c7_1), (.ints .i64 c7_2)])]) (es := [(.agg [(.bool c5_0), (.ints .i64 c5_1), (.ints .i64 c5_2)]), (.agg [(.bool c7_0), (.ints .i64 c7_1), (.ints .i64 c7_2)])]) (r := (.int .i64 c38)) (by kernel_rfl) (by kernel_rfl) (Ic.args hc39 (by kernel_rfl)) (by kernel_rfl) ?_
        refine W.guard true (w := (c33 == true)) (by kernel_rfl) (congrArg (fun b => b == true) h35) ?_
        refine W.adv 1 ?_
        refine W.opS (OpIs.pk true (t := c33) (x := (.bool (decide (c36 = c38)))) (y := (.bool false)) (by kernel_rfl) h35) ?_
        refine W.adv 1 ?_
        rcases H with ⟨h40, H⟩ | ⟨h40, H⟩
        · refine W.guard true (w := ((decide (c36 = c38)) == true)) (by kernel_rfl) (congrArg (fun b => b == true) (decide_eq_true h40)) ?_
          refine W.adv 1 ?_
          refine W.guard true (w := ((decide (c36 = c38)) == true)) (by kernel_rfl) (congrArg (fun b => b == true) (decide_eq_true h40)) ?_
          obtain ⟨c41, hc42, H⟩ := H
          refine W.callR (g := 59) (ds := [(.agg [(.bool c1_0), (.ints .u64 c1_1), (.ints .u64 c1_2)])]) (es := [(.agg [(.bool c1_0), (.ints .u64 c1_1), (.ints .u64 c1_2)])]) (r := (.int .i64 c41)) (by kernel_rfl) (by kernel_rfl) (Ic.args hc42 (by kernel_rfl)) (by kernel_rfl) ?_
          refine W.guard true (w := ((decide (c36 = c38)) == true)) (by kernel_rfl) (congrArg (fun b => b == true) (decide_eq_true h40)) ?_
          refine W.adv 1 ?_
          refine W.guard true (w := ((decide (c36 = c38)) == true)) (by kernel_rfl) (congrArg (fun b => b == true) (decide_eq_true h40)) ?_
          obtain ⟨c43, hc44, H⟩ := H
          refine W.callR (g := 60) (ds := [(.agg [(.bool c5_0), (.ints .i64 c5_1), (.ints .i64 c5_2)])]) (es := [(.agg [(.bool c5_0), (.ints .i64 c5_1), (.ints .i64 c5_2)])]) (r := (.int .i64 c43)) (by kernel_rfl) (by kernel_rfl) (Ic.args hc44 (by kernel_rfl)) (by kernel_rfl) ?_
          refine W.guard true (w := ((decide (c36 = c38)) == true)) (by kernel_rfl) (congrArg (fun b => b == true) (decide_eq_true h40)) ?_
          refine W.adv 1 ?_
          refine W.opS (OpIs.pk true (t := (decide (c36 = c38))) (x := (.bool (decide (c41 = c43)))) (y := (.bool false)) (by kernel_rfl) (decide_eq_true h40)) ?_
          refine W.adv 1 ?_
          rcases H with ⟨h45, H⟩ | ⟨h45, H⟩
          · refine W.guard true (w := ((decide (c41 = c43)) == true)) (by kernel_rfl) (congrArg (fun b => b == true) (decide_eq_true h45)) ?_
            refine W.adv 1 ?_
            refine W.guard true (w := ((decide (c41 = c43)) == true)) (by kernel_rfl) (congrArg (fun b => b == true) (decide_eq_true h45)) ?_
            refine W.adv 1 ?_
            refine W.guard true (w := ((decide (c41 = c43)) == true)) (by kernel_rfl) (congrArg (fun b => b == true) (decide_eq_true h45)) ?_
            obtain ⟨c46, hc47, H⟩ := H
            refine W.callR (g := 61) (ds := [(.agg [(.bool c1_0), (.ints .u64 c1_1), (.ints .u64 c1_2)]), (.agg [(.bool c3_0), (.ints .u64 c3_1), (.ints .u64 c3_2)])]) (es := [(.agg [(.bool c1_0), (.ints .u64 c1_1), (.ints .u64 c1_2)]), (.agg [(.bool c3_0), (.ints .u64 c3_1), (.ints .u64 c3_2)])]) (r := (.bool c46)) (by kernel_rfl) (by kernel_rfl) (Ic.args hc47 (by kernel_rfl)) (by kernel_rfl) ?_
            refine W.guard true (w := ((decide (c41 = c43)) == true)) (by kernel_rfl) (congrArg (fun b => b == true) (decide_eq_true h45)) ?_
            refine W.adv 1 ?_
            refine W.guard true (w := ((decide (c41 = c43)) == true)) (by kernel_rfl) (congrArg (fun b => b == true) (decide_eq_true h45)) ?_
            refine W.adv 1 ?_
            refine W.guard true (w := ((decide (c41 = c43)) == true)) (by kernel_rfl) (congrArg (fun b => b == true) (decide_eq_true h45)) ?_
            obtain ⟨c48, hc49, H⟩ := H
            refine W.callR (g := 30) (ds := [(.agg [(.bool c1_0), (.ints .u64 c1_1), (.ints .u64 c1_2)]), (.agg [(.bool c3_0), (.ints .u64 c3_1), (.ints .u64 c3_2)])]) (es := [(.agg [(.bool c1_0), (.ints .u64 c1_1), (.ints .u64 c1_2)]), (.agg [(.bool c3_0), (.ints .u64 c3_1), (.ints .u64 c3_2)])]) (r := (.bool c48)) (by kernel_rfl) (by kernel_rfl) (Ic.args hc49 (by kernel_rfl)) (by kernel_rfl) ?_
            refine W.guard true (w := ((decide (c41 = c43)) == true)) (by kernel_rfl) (congrArg (fun b => b == true) (decide_eq_true h45)) ?_
            refine W.adv 1 ?_
            refine W.opS (OpIs.pk true (t := (decide (c41 = c43))) (x := (.bool (c46 == c48))) (y := (.bool false)) (by kernel_rfl) (decide_eq_true h45)) ?_
            refine W.adv 1 ?_
            rcases H with ⟨h50, H⟩ | ⟨h50, H⟩
            · rcases H with ⟨h51, H⟩ | ⟨h51, H⟩
              · refine W.guard true (w := ((c46 == c48) == true)) (by kernel_rfl) (congrArg (fun b => b == true) (congr (congrArg (fun x y => x == y) h50) h51)) ?_
                obtain ⟨c52, hc53, H⟩ := H
                refine W.callR (g := 31) (ds := []) (es := []) (r := (.bool c52)) (by kernel_rfl) (by kernel_rfl) (Ic.args hc53 (by kernel_rfl)) (by kernel_rfl) ?_
                refine W.opS (OpIs.pk true (t := (c46 == c48)) (x := (.bool c52)) (y := (.bool false)) (by kernel_rfl) (congr (congrArg (fun x y => x == y) h50) h51)) ?_
                refine W.adv 4 ?_
                exact W.fin (x := .ret) (by kernel_rfl) (LAns.of (d := (.bool c52)) (by kernel_rfl) (by rw [H]))
              · refine W.guard false (w := ((c46 == c48) == true)) (by kernel_rfl) (congrArg (fun b => b == true) (congr (congrArg (fun x y => x == y) h50) (bfalse h51))) ?_
                refine W.opS (OpIs.pk false (t := (c46 == c48)) (x := (.tuple [])) (y := (.bool false)) (by kernel_rfl) (congr (congrArg (fun x y => x == y) h50) (bfalse h51))) ?_
                refine W.adv 4 ?_
                exact W.fin (x := .ret) (by kernel_rfl) (LAns.of (d := (.bool false)) (by kernel_rfl) (by rw [H]))
            · rcases H with ⟨h54, H⟩ | ⟨h54, H⟩
              · refine W.guard false (w := ((c46 == c48) == true)) (by kernel_rfl) (congrArg (fun b => b == true) (congr (congrArg (fun x y => x == y) (bfalse h50)) h54)) ?_
                refine W.opS (OpIs.pk false (t := (c46 == c48)) (x := (.tuple [])) (y := (.bool false)) (by kernel_rfl) (congr (congrArg (fun x y => x == y) (bfalse h50)) h54)) ?_
                refine W.adv 4 ?_
                exact W.fin (x := .ret) (by kernel_rfl) (LAns.of (d := (.bool false)) (by kernel_rfl) (by rw [H]))
              · refine W.guard true (w := ((c46 == c48) == true)) (by kernel_rfl) (congrArg (fun b => b == true) (congr (congrArg (fun x y => x == y) (bfalse h50)) (bfalse h54))) ?_
                obtain ⟨c55, hc56, H⟩ := H
                refine W.callR (g := 31) (ds := []) (es := []) (r := (.bool c55)) (by kernel_rfl) (by kernel_rfl) (Ic.args hc56 (by kernel_rfl)) (by kernel_rfl) ?_
                refine W.opS (OpIs.pk true (t := (c46 == c48)) (x := (.bool c55)) (y := (.bool false)) (by kernel_rfl) (congr (congrArg (fun x y => x == y) (bfalse h50)) (bfalse h54))) ?_
                refine W.adv 4 ?_
                exact W.fin (x := .ret) (by kernel_rfl) (LAns.of (d := (.bool c55)) (by kernel_rfl) (by rw [H]))
          · refine W.guard false (w := ((decide (c41 = c43)) == true)) (by kernel_rfl) (congrArg (fun b => b == true) (decide_eq_false h45)) ?_
            refine W.guard false (w := ((decide (c41 = c43)) == true)) (by kernel_rfl) (congrArg (fun b => b == true) (decide_eq_false h45)) ?_
            refine W.guard false (w := ((decide (c41 = c43)) == true)) (by kernel_rfl) (congrArg (fun b => b == true) (decide_eq_false h45)) ?_
            refine W.guard false (w := ((decide (c41 = c43)) == true)) (by kernel_rfl) (congrArg (fun b => b == true) (decide_eq_false h45)) ?_
            refine W.guard false (w := ((decide (c41 = c43)) == true)) (by kernel_rfl) (congrArg (fun b => b == true) (decide_eq_false h45)) ?_
            refine W.guard false (w := ((decide (c41 = c43)) == true)) (by kernel_rfl) (congrArg (fun b => b == true) (decide_eq_false h45)) ?_
            refine W.guard false (w := ((decide (c41 = c43)) == true)) (by kernel_rfl) (congrArg (fun b => b == true) (decide_eq_false h45)) ?_
            refine W.opS (OpIs.pk false (t := (decide (c41 = c43))) (x := (.tuple [])) (y := (.bool false)) (by kernel_rfl) (decide_eq_false h45)) ?_
            refine W.adv 7 ?_
            exact W.fin (x := .ret) (by kernel_rfl) (LAns.of (d := (.bool false)) (by kernel_rfl) (by rw [H]))
        · refine W.guard false (w := ((decide (c36 = c38)) == true)) (by kernel_rfl) (congrArg (fun b => b == true) (decide_eq_false h40)) ?_
          refine W.guard false (w := ((decide (c36 = c38)) == true)) (by kernel_rfl) (congrArg (fun b => b == true) (decide_eq_false h40)) ?_
          refine W.guard false (w := ((decide (c36 = c38)) == true)) (by kernel_rfl) (congrArg (fun b => b == true) (decide_eq_false h40)) ?_
          refine W.guard false (w := ((decide (c36 = c38)) == true)) (by kernel_rfl) (congrArg (fun b => b == true) (decide_eq_false h40)) ?_
          refine W.guard false (w := ((decide (c36 = c38)) == true)) (by kernel_rfl) (congrArg (fun b => b == true) (decide_eq_false h40)) ?_
          refine W.opS (OpIs.pk false (t := (decide (c36 = c38))) (x := (.tuple [])) (y := (.bool false)) (by kernel_rfl) (decide_eq_false h40)) ?_
          refine W.adv 16 ?_
          exact W.fin (x := .ret) (by kernel_rfl) (LAns.of (d := (.bool false)) (by kernel_rfl) (by rw [H]))
      · refine W.guard false (w := (c33 == true)) (by kernel_rfl) (congrArg (fun b => b == true) (bfalse h35)) ?_
        refine W.guard false (w := (c33 == true)) (by kernel_rfl) (congrArg (fun b => b == true) (bfalse h35)) ?_
        refine W.guard false (w := (c33 == true)) (by kernel_rfl) (congrArg (fun b => b == true) (bfalse h35)) ?_
        refine W.guard false (w := (c33 == true)) (by kernel_rfl) (congrArg (fun b => b == true) (bfalse h35)) ?_
        refine W.guard false (w := (c33 == true)) (by kernel_rfl) (congrArg (fun b => b == true) (bfalse h35)) ?_
        refine W.guard false (w := (c33 == true)) (by kernel_rfl) (congrArg (fun b => b == true) (bfalse h35)) ?_
        refine W.guard false (w := (c33 == true)) (by kernel_rfl) (congrArg (fun b => b == true) (bfalse h35)) ?_
        refine W.opS (OpIs.pk false (t := c33) (x := (.tuple [])) (y := (.bool false)) (by kernel_rfl) (bfalse h35)) ?_
        refine W.adv 23 ?_
        exact W.fin (x := .ret) (by kernel_rfl) (LAns.of (d := (.bool false)) (by kernel_rfl) (by rw [H]))
    · refine W.guard false (w := (c24 == true)) (by kernel_rfl) (congrArg (fun b => b == true) (bfalse h26)) ?_
      refine W.guard false (w := (c24 == true)) (by kernel_rfl) (congrArg (fun b => b == true) (bfalse h26)) ?_
      refine W.guard false (w := (c24 == true)) (by kernel_rfl) (congrArg (fun b => b == true) (bfalse h26)) ?_
      refine W.guard false (w := (c24 == true)) (by kernel_rfl) (congrArg (fun b => b == true) (bfalse h26)) ?_
      refine W.guard false (w := (c24 == true)) (by kernel_rfl) (congrArg (fun b => b == true) (bfalse h26)) ?_
      refine W.guard false (w := (c24 == true)) (by kernel_rfl) (congrArg (fun b => b == true) (bfalse h26)) ?_
      refine W.guard false (w := (c24 == true)) (by kernel_rfl) (congrArg (fun b => b == true) (bfalse h26)) ?_
      refine W.guard false (w := (c24 == true)) (by kernel_rfl) (congrArg (fun b => b == true) (bfalse h26)) ?_
      refine W.opS (OpIs.pk false (t := c24) (x := (.tuple [])) (y := (.bool false)) (by kernel_rfl) (bfalse h26)) ?_
      refine W.adv 32 ?_
      exact W.fin (x := .ret) (by kernel_rfl) (LAns.of (d := (.bool false)) (by kernel_rfl) (by rw [H]))
  · refine W.guard false (w := (c15 == true)) (by kernel_rfl) (congrArg (fun b => b == true) (bfalse h17)) ?_
    refine W.guard false (w := (c15 == true)) (by kernel_rfl) (congrArg (fun b => b == true) (bfalse h17)) ?_
    refine W.guard false (w := (c15 == true)) (by kernel_rfl) (congrArg (fun b => b == true) (bfalse h17)) ?_
    refine W.guard false (w := (c15 == true)) (by kernel_rfl) (congrArg (fun b => b == true) (bfalse h17)) ?_
    refine W.guard false (w := (c15 == true)) (by kernel_rfl) (congrArg (fun b => b == true) (bfalse h17)) ?_
    refine W.guard false (w := (c15 == true)) (by kernel_rfl) (congrArg (fun b => b == true) (bfalse h17)) ?_
    refine W.guard false (w := (c15 == true)) (by kernel_rfl) (congrArg (fun b => b == true) (bfalse h17)) ?_
    refine W.guard false (w := (c15 == true)) (by kernel_rfl) (congrArg (fun b => b == true) (bfalse h17)) ?_
    refine W.opS (OpIs.pk false (t := c15) (x := (.tuple [])) (y := (.bool false)) (by kernel_rfl) (bfalse h17)) ?_
    refine W.adv 42 ?_
    exact W.fin (x := .ret) (by kernel_rfl) (LAns.of (d := (.bool false)) (by kernel_rfl) (by rw [H]))
end Go.Proofs.YtcmajlphfnihgaaA
