/- Walks through the functions: what makes each relation true. -/
import Derived.Test.YteepbjndbemcdaaGreatW0
set_option linter.unusedVariables false
set_option maxRecDepth 100000
namespace Go.Proofs.YteepbjndbemcdaaGreatA
open Go Go.Proofs
/-! ### trivium/triviumlaw10.FoldSums -/
theorem law10_FoldSums_go {a0 : List T_api_Rat} {a1_0 : Bool} {a1_1 : List Int} {a1_2 : List Int} {z : Bool} (H : (∃ c1t0 : List T_api_Rat, (∃ c1t1 : List T_ref08_Q, (law10_few_R a0 c1t0 c1t1 ∧ (∃ c3_0 : Bool, (∃ c3_1 : List Int, (∃ c3_2 : List Int, (ref08_Clean_R a1_0 a1_1 a1_2 2 c3_0 c3_1 c3_2 ∧ (∃ c5_0 : Bool, (∃ c5_1 : List Int, (∃ c5_2 : List Int, (fold_Sum_R c1t0 c5_0 c5_1 c5_2 ∧ (∃ c7_0 : Bool, (∃ c7_1 : List Int, (∃ c7_2 : List Int, (ref10_Sum_R c1t1 c7_0 c7_1 c7_2 ∧ (∃ c9_0 : Bool, (∃ c9_1 : List Int, (∃ c9_2 : List Int, (ref08_Back_R c7_0 c7_1 c7_2 c9_0 c9_1 c9_2 ∧ (∃ c11 : Bool, (ref08_Same_R c5_0 c5_1 c5_2 c9_0 c9_1 c9_2 c11 ∧ ((c11 = true ∧ (∃ c14_0 : Bool, (∃ c14_1 : List Int, (∃ c14_2 : List Int, (fold_Product_R c1t0 c14_0 c14_1 c14_2 ∧ (∃ c16_0 : Bool, (∃ c16_1 : List Int, (∃ c16_2 : List Int, (ref10_Product_R c1t1 c16_0 c16_1 c16_2 ∧ (∃ c18_0 : Bool, (∃ c18_1 : List Int, (∃ c18_2 : List Int, (ref08_Back_R c16_0 c16_1 c16_2 c18_0 c18_1 c18_2 ∧ (∃ c20 : Bool, (ref08_Same_R c14_0 c14_1 c14_2 c18_0 c18_1 c18_2 c20 ∧ ((c20 = true ∧ (∃ c23 : Bool, (fold_Whole_R c1t0 c23 ∧ (∃ c25 : Bool, (ref10_Whole_R c1t1 c25 ∧ ((c23 = true ∧ ((c25 = true ∧ (∃ c29_0 : Bool, (∃ c29_1 : List Int, (∃ c29_2 : List Int, (fold_Not_R c3_0 c3_1 c3_2 c29_0 c29_1 c29_2 ∧ (∃ c31_0 : Bool, (∃ c31_1 : List Int, (∃ c31_2 : List Int, (ref08_Num_R 1 1 c31_0 c31_1 c31_2 ∧ (∃ c33_0 : Bool, (∃ c33_1 : List Int, (∃ c33_2 : List Int, (ref08_Of_R c3_0 c3_1 c3_2 c33_0 c33_1 c33_2 ∧ (∃ c35_0 : Bool, (∃ c35_1 : List Int, (∃ c35_2 : List Int, (ref08_Sub_R c31_0 c31_1 c31_2 c33_0 c33_1 c33_2 c35_0 c35_1 c35_2 ∧ (∃ c37_0 : Bool, (∃ c37_1 : List Int, (∃ c37_2 : List Int, (ref08_Back_R c35_0 c35_1 c35_2 c37_0 c37_1 c37_2 ∧ (∃ c39 : Bool, (ref08_Same_R c29_0 c29_1 c29_2 c37_0 c37_1 c37_2 c39 ∧ ((c39 = true ∧ (∃ c42 : Bool, (law10_works_R c42 ∧ (z = c42)))) ∨ (¬ c39 = true ∧ (z = false)))))))))))))))))))))))))) ∨ (¬ c25 = true ∧ (z = false)))) ∨ (¬ c23 = true ∧ ((c25 = true ∧ (z = false)) ∨ (¬ c25 = true ∧ (∃ c45_0 : Bool, (∃ c45_1 : List Int, (∃ c45_2 : List Int, (fold_Not_R c3_0 c3_1 c3_2 c45_0 c45_1 c45_2 ∧ (∃ c47_0 : Bool, (∃ c47_1 : List Int, (∃ c47_2 : List Int, (ref08_Num_R 1 1 c47_0 c47_1 c47_2 ∧ (∃ c49_0 : Bool, (∃ c49_1 : List Int, (∃ c49_2 : List Int, (ref08_Of_R c3_0 c3_1 c3_2 c49_0 c49_1 c49_2 ∧ (∃ c51_0 : Bool, (∃ c51_1 : List Int, (∃ c51_2 : List Int, (ref08_Sub_R c47_0 c47_1 c47_2 c49_0 c49_1 c49_2 c51_0 c51_1 c51_2 ∧ (∃ c53_0 : Bool, (∃ c53_1 : List Int, (∃ c53_2 : List Int, (ref08_Back_R c51_0 c51_1 c51_2 c53_0 c53_1 c53_2 ∧ (∃ c55 : Bool, (ref08_Same_R c45_0 c45_1 c45_2 c53_0 c53_1 c53_2 c55 ∧ ((c55 = true ∧ (∃ c58 : Bool, (law10_works_R c58 ∧ (z = c58)))) ∨ (¬ c55 = true ∧ (z = false)))))))))))))))))))))))))))))))))) ∨ (¬ c20 = true ∧ (z = false)))))))))))))))))) ∨ (¬ c11 = true ∧ (z = false))))))))))))))))))))))))) : law10_FoldSums_R a0 a1_0 a1_1 a1_2 z := by
  refine W.lawIs (zs := [(.list 3 (a0.map E_api_Rat)), (.agg [(.bool a1_0), (.ints .u64 a1_1), (.ints .u64 a1_2)])]) Tryz.func5 (by kernel_rfl) (by kernel_rfl) (by kernel_rfl) ?_
  refine W.adv 9 ?_
  obtain ⟨c1t0, c1t1, hc2, H⟩ := H
  refine W.callR (g := 20) (ds := [(.list 3 (a0.map E_api_Rat))]) (es := [(.list 3 (a0.map E_api_Rat))]) (r := (.tuple [(.list 3 (c1t0.map E_api_Rat)), (.list 3 (c1t1.map E_ref08_Q))])) (by kernel_rfl) (by kernel_rfl) (Ic.args hc2 (by kernel_rfl)) (by kernel_rfl) ?_
  refine W.adv 10 ?_
  obtain ⟨c3_0, c3_1, c3_2, hc4, H⟩ := H
  refine W.callR (g := 21) (ds := [(.agg [(.bool a1_0), (.ints .u64 a1_1), (.ints .u64 a1_2)]), (.int .i64 2)]) (es := [(.agg [(.bool a1_0), (.ints .u64 a1_1), (.ints .u64 a1_2)]), (.int .i64 2)]) (r := (.agg [(.bool c3_0), (.ints .u64 c3_1), (.ints .u64 c3_2)])) (by kernel_rfl) (by kernel_rfl) (Ic.args hc4 (by kernel_rfl)) (by kernel_rfl) ?_
  refine W.adv 6 ?_
  obtain ⟨c5_0, c5_1, c5_2, hc6, H⟩ := H
  refine W.callT (g := 22) (ds := [(.list 3 (c1t0.map E_api_Rat))]) (es := [(.list 3 (c1t0.map E_api_Rat))]) (r := (.agg [(.bool c5_0), (.ints .u64 c5_1), (.ints .u64 c5_2)])) (by kernel_rfl) (by kernel_rfl) (by kernel_rfl) (Ic.args hc6 (by kernel_rfl)) ?_
  refine W.adv 1 ?_
  obtain ⟨c7_0, c7_1, c7_2, hc8, H⟩ := H
  refine W.callR (g := 23) (ds := [(.list 3 (c1t1.map E_ref08_Q))]) (es := [(.list 3 (c1t1.map E_ref08_Q))]) (r := (.agg [(.bool c7_0), (.ints .i64 c7_1), (.ints .i64 c7_2)])) (by kernel_rfl) (by kernel_rfl) (Ic.args hc8 (by kernel_rfl)) (by kernel_rfl) ?_
  obtain ⟨c9_0, c9_1, c9_2, hc10, H⟩ := H
  refine W.callR (g := 13) (ds := [(.agg [(.bool c7_0), (.ints .i64 c7_1), (.ints .i64 c7_2)])]) (es := [(.agg [(.bool c7_0), (.ints .i64 c7_1), (.ints .i64 c7_2)])]) (r := (.agg [(.bool c9_0), (.ints .u64 c9_1), (.ints .u64 c9_2)])) (by kernel_rfl) (by kernel_rfl) (Ic.args hc10 (by kernel_rfl)) (by kernel_rfl) ?_
  obtain ⟨c11, hc12, H⟩ := H
  refine W.callR (g := 12) (ds := [(.agg [(.bool c5_0), (.ints .u64 c5_1), (.ints .u64 c5_2)]), (.agg [(.bool c9_0), (.ints .u64 c9_1), (.ints .u64 c9_2)])]) (es := [(.agg [(.bool c5_0), (.ints .u64 c5_1), (.ints .u64 c5_2)]), (.agg [(.bool c9_0), (.ints .u64 c9_1), (.ints .u64 c9_2)])]) (r := (.bool c11)) (by kernel_rfl) (by kernel_rfl) (Ic.args hc12 (by kernel_rfl)) (by kernel_rfl) ?_
  refine W.adv 1 ?_
  rcases H with ⟨h13, H⟩ | ⟨h13, H⟩
  · refine W.guard true (w := (c11 == true)) (by kernel_rfl) (congrArg (fun b => b == true) h13) ?_
    refine W.adv 1 ?_
    refine W.guard true (w := (c11 == true)) (by kernel_rfl) (congrArg (fun b => b == true) h13) ?_
    obtain ⟨c14_0, c14_1, c14_2, hc15, H⟩ := H
    refine W.callR (g := 24) (ds := [(.list 3 (c1t0.map E_api_Rat))]) (es := [(.list 3 (c1t0.map E_api_Rat))]) (r := (.agg [(.bool c14_0), (.ints .u64 c14_1), (.ints .u64 c14_2)])) (by kernel_rfl) (by kernel_rfl) (Ic.args hc15 (by kernel_rfl)) (by kernel_rfl) ?_
    refine W.guard true (w := (c11 == true)) (by kernel_rfl) (congrArg (fun b => b == true) h13) ?_
    refine W.adv 1 ?_
    refine W.guard true (w := (c11 == true)) (by kernel_rfl) (congrArg (fun b => b == true) h13) ?_
    obtain ⟨c16_0, c16_1, c16_2, hc17, H⟩ := H
    refine W.callR (g := 25) (ds := [(.list 3 (c1t1.map E_ref08_Q))]) (es := [(.list 3 (c1t1.map E_ref08_Q))]) (r := (.agg [(.bool c16_0), (.ints .i64 c16_1), (.ints .i64 c16_2)])) (by kernel_rfl) (by kernel_rfl) (Ic.args hc17 (by kernel_rfl)) (by kernel_rfl) ?_
    refine W.guard true (w := (c11 == true)) (by kernel_rfl) (congrArg (fun b => b == true) h13) ?_
    obtain ⟨c18_0, c18_1, c18_2, hc19, H⟩ := H
    refine W.callR (g := 13) (ds := [(.agg [(.bool c16_0), (.ints .i64 c16_1), (.ints .i64 c16_2)])]) (es := [(.agg [(.bool c16_0), (.ints .i64 c16_1), (.ints .i64 c16_2)])]) (r := (.agg [(.bool c18_0), (.ints .u64 c18_1), (.ints .u64 c18_2)])) (by kernel_rfl) (by kernel_rfl) (Ic.args hc19 (by kernel_rfl)) (by kernel_rfl) ?_
    refine W.guard true (w := (c11 == true)) (by kernel_rfl) (congrArg (fun b => b == true) h13) ?_
    obtain ⟨c20, hc21, H⟩ := H
    refine W.callR (g := 12) (ds := [(.agg [(.bool c14_0), (.ints .u64 c14_1), (.ints .u64 c14_2)]), (.agg [(.bool c18_0), (.ints .u64 c18_1), (.ints .u64 c18_2)])]) (es := [(.agg [(.bool c14_0), (.ints .u64 c14_1), (.ints .u64 c14_2)]), (.agg [(.bool c18_0), (.ints .u64 c18_1), (.ints .u64 c18_2)])]) (r := (.bool c20)) (by kernel_rfl) (by kernel_rfl) (Ic.args hc21 (by kernel_rfl)) (by kernel_rfl) ?_
    refine W.opS (OpIs.pk true (t := c11) (x := (.bool c20)) (y := (.bool false)) (by kernel_rfl) h13) ?_
    refine W.adv 1 ?_
    rcases H with ⟨h22, H⟩ | ⟨h22, H⟩
    · refine W.guard true (w := (c20 == true)) (by kernel_rfl) (congrArg (fun b => b == true) h22) ?_
      refine W.adv 1 ?_
      refine W.guard true (w := (c20 == true)) (by kernel_rfl) (congrArg (fun b => b == true) h22) ?_
      obtain ⟨c23, hc24, H⟩ := H
      refine W.callR (g := 26) (ds := [(.list 3 (c1t0.map E_api_Rat))]) (es := [(.list 3 (c1t0.map E_api_Rat))]) (r := (.bool c23)) (by kernel_rfl) (by kernel_rfl) (Ic.args hc24 (by kernel_rfl)) (by kernel_rfl) ?_
      refine W.guard true (w := (c20 == true)) (by kernel_rfl) (congrArg (fun b => b == true) h22) ?_
      refine W.adv 1 ?_
      refine W.guard true (w := (c20 == true)) (by kernel_rfl) (congrArg (fun b => b == true) h22) ?_
      obtain ⟨c25, hc26, H⟩ := H
      refine W.callR (g := 27) (ds := [(.list 3 (c1t1.map E_ref08_Q))]) (es := [(.list 3 (c1t1.map E_ref08_Q))]) (r := (.bool c25)) (by kernel_rfl) (by kernel_rfl) (Ic.args hc26 (by kernel_rfl)) (by kernel_rfl) ?_
      refine W.guard true (w := (c20 == true)) (by kernel_rfl) (congrArg (fun b => b == true) h22) ?_
      refine W.adv 1 ?_
      refine W.opS (OpIs.pk true (t := c20) (x := (.bool (c23 == c25))) (y := (.bool false)) (by kernel_rfl) h22) ?_
      refine W.adv 1 ?_
      rcases H with ⟨h27, H⟩ | ⟨h27, H⟩
      · rcases H with ⟨h28, H⟩ | ⟨h28, H⟩
        · refine W.guard true (w := ((c23 == c25) == true)) (by kernel_rfl) (congrArg (fun b => b == true) (congr (congrArg (fun x y => x == y) h27) h28)) ?_
          refine W.adv 1 ?_
          refine W.guard true (w := ((c23 == c25) == true)) (by kernel_rfl) (congrArg (fun b => b == true) (congr (congrArg (fun x y => x == y) h27) h28)) ?_
          obtain ⟨c29_0, c29_1, c29_2, hc30, H⟩ := H
          refine W.callR (g := 28) (ds := [(.agg [(.bool c3_0), (.ints .u64 c3_1), (.ints .u64 c3_2)])]) (es := [(.agg [(.bool c3_0), (.ints .u64 c3_1), (.ints .u64 c3_2)])]) (r := (.agg [(.bool c29_0), (.ints .u64 c29_1), (.ints .u64 c29_2)])) (by kernel_rfl) (by kernel_rfl) (Ic.args hc30 (by kernel_rfl)) (by kernel_rfl) ?_
          refine W.guard true (w := ((c23 == c25) == true)) (by kernel_rfl) (congrArg (fun b => b == true) (congr (congrArg (fun x y => x == y) h27) h28)) ?_
          obtain ⟨c31_0, c31_1, c31_2, hc32, H⟩ := H
          refine W.callR (g := 30) (ds := [(.int .i64 1), (.int .i64 1)]) (es := [(.int .i64 1), (.int .i64 1)]) (r := (.agg [(.bool c31_0), (.ints .i64 c31_1), (.ints .i64 c31_2)])) (by kernel_rfl) (by kernel_rfl) (Ic.args hc32 (by kernel_rfl)) (by kernel_rfl) ?_
          refine W.guard true (w := ((c23 == c25) == true)) (by kernel_rfl) (congrArg (fun b => b == true) (congr (congrArg (fun x y => x == y) h27) h28)) ?_
          refine W.adv 1 ?_
          refine W.guard true (w := ((c23 == c25) == true)) (by kernel_rfl) (congrArg (fun b => b == true) (congr (congrArg (fun x y => x == y) h27) h28)) ?_
          obtain ⟨c33_0, c33_1, c33_2, hc34, H⟩ := H
          refine W.callR (g := 31) (ds := [(.agg [(.bool c3_0), (.ints .u64 c3_1), (.ints .u64 c3_2)])]) (es := [(.agg [(.bool c3_0), (.ints .u64 c3_1), (.ints .u64 c3_2)])]) (r := (.agg [(.bool c33_0), (.ints .i64 c33_1), (.ints .i64 c33_2)])) (by kernel_rfl) (by kernel_rfl) (Ic.args hc34 (by kernel_rfl)) (by kernel_rfl) ?_
          refine W.guard true (w := ((c23 == c25) == true)) (by kernel_rfl) (congrArg (fun b => b == true) (congr (congrArg (fun x y => x == y) h27) h28)) ?_
          obtain ⟨c35_0, c35_1, c35_2, hc36, H⟩ := H
          refine W.callR (g := 29) (ds := [(.agg [(.bool c31_0), (.ints .i64 c31_1), (.ints .i64 c31_2)]), (.agg [(.bool c33_0), (.ints .i64 c33_1), (.ints .i64 c33_2)])]) (es := [(.agg [(.bool c31_0), (.ints .i64 c31_1), (.ints .i64 c31_2)]), (.agg [(.bool c33_0), (.ints .i64 c33_1), (.ints .i64 c33_2)])]) (r := (.agg [(.bool c35_0), (.ints .i64 c35_1), (.ints .i64 c35_2)])) (by kernel_rfl) (by kernel_rfl) (Ic.args hc36 (by kernel_rfl)) (by kernel_rfl) ?_
          refine W.guard true (w := ((c23 == c25) == true)) (by kernel_rfl) (congrArg (fun b => b == true) (congr (congrArg (fun x y => x == y) h27) h28)) ?_
          obtain ⟨c37_0, c37_1, c37_2, hc38, H⟩ := H
          refine W.callR (g := 13) (ds := [(.agg [(.bool c35_0), (.ints .i64 c35_1), (.ints .i64 c35_2)])]) (es := [(.agg [(.bool c35_0), (.ints .i64 c35_1), (.ints .i64 c35_2)])]) (r := (.agg [(.bool c37_0), (.ints .u64 c37_1), (.ints .u64 c37_2)])) (by kernel_rfl) (by kernel_rfl) (Ic.args hc38 (by kernel_rfl)) (by kernel_rfl) ?_
          refine W.guard true (w := ((c23 == c25) == true)) (by kernel_rfl) (congrArg (fun b => b == true) (congr (congrArg (fun x y => x == y) h27) h28)) ?_
          obtain ⟨c39, hc40, H⟩ := H
          refine W.callR (g := 12) (ds := [(.agg [(.bool c29_0), (.ints .u64 c29_1), (.ints .u64 c29_2)]), (.agg [(.bool c37_0), (.ints .u64 c37_1), (.ints .u64 c37_2)])]) (es := [(.agg [(.bool c29_0), (.ints .u64 c29_1), (.ints .u64 c29_2)]), (.agg [(.bool c37_0), (.ints .u64 c37_1), (.ints .u64 c37_2)])]) (r := (.bool c39)) (by kernel_rfl) (by kernel_rfl) (Ic.args hc40 (by kernel_rfl)) (by kernel_rfl) ?_
          refine W.opS (OpIs.pk true (t := (c23 == c25)) (x := (.bool c39)) (y := (.bool false)) (by kernel_rfl) (congr (congrArg (fun x y => x == y) h27) h28)) ?_
          refine W.adv 1 ?_
          rcases H with ⟨h41, H⟩ | ⟨h41, H⟩
          · refine W.guard true (w := (c39 == true)) (by kernel_rfl) (congrArg (fun b => b == true) h41) ?_
            obtain ⟨c42, hc43, H⟩ := H
            refine W.callR (g := 32) (ds := []) (es := []) (r := (.bool c42)) (by kernel_rfl) (by kernel_rfl) (Ic.args hc43 (by kernel_rfl)) (by kernel_rfl) ?_
            refine W.opS (OpIs.pk true (t := c39) (x := (.bool c42)) (y := (.bool false)) (by kernel_rfl) h41) ?_
            refine W.adv 4 ?_
            exact W.fin (x := .ret) (by kernel_rfl) (LAns.of (d := (.bool c42)) (by kernel_rfl) (by rw [H]))
          · refine W.guard false (w := (c39 == true)) (by kernel_rfl) (congrArg (fun b => b == true) (bfalse h41)) ?_
            refine W.opS (OpIs.pk false (t := c39) (x := (.tuple [])) (y := (.bool false)) (by kernel_rfl) (bfalse h41)) ?_
            refine W.adv 4 ?_
            exact W.fin (x := .ret) (by kernel_rfl) (LAns.of (d := (.bool false)) (by kernel_rfl) (by rw [H]))
        · refine W.guard false (w := ((c23 == c25) == true)) (by kernel_rfl) (congrArg (fun b => b == true) (congr (congrArg (fun x y => x == y) h27) (bfalse h28))) ?_
          refine W.guard false (w := ((c23 == c25) == true)) (by kernel_rfl) (congrArg (fun b => b == true) (congr (congrArg (fun x y => x == y) h27) (bfalse h28))) ?_
          refine W.guard false (w := ((c23 == c25) == true)) (by kernel_rfl) (congrArg (fun b => b == true) (congr (congrArg (fun x y => x == y) h27) (bfalse h28))) ?_
          refine W.guard false (w := ((c23 == c25) == true)) (by kernel_rfl) (congrArg (fun b => b == true) (congr (congrArg (fun x y => x == y) h27) (bfalse h28))) ?_
          refine W.guard false (w := ((c23 == c25) == true)) (by kernel_rfl) (congrArg (fun b => b == true) (congr (congrArg (fun x y => x == y) h27) (bfalse h28))) ?_
          refine W.guard false (w := ((c23 == c25) == true)) (by kernel_rfl) (congrArg (fun b => b == true) (congr (congrArg (fun x y => x == y) h27) (bfalse h28))) ?_
          refine W.guard false (w := ((c23 == c25) == true)) (by kernel_rfl) (congrArg (fun b => b == true) (congr (congrArg (fun x y => x == y) h27) (bfalse h28))) ?_
          refine W.guard false (w := ((c23 == c25) == true)) (by kernel_rfl) (congrArg (fun b => b == true) (congr (congrArg (fun x y => x == y) h27) (bfalse h28))) ?_
          refine W.opS (OpIs.pk false (t := (c23 == c25)) (x := (.tuple [])) (y := (.bool false)) (by kernel_rfl) (congr (congrArg (fun x y => x == y) h27) (bfalse h28))) ?_
          refine W.adv 7 ?_
          exact W.fin (x := .ret) (by kernel_rfl) (LAns.of (d := (.bool false)) (by kernel_rfl) (by rw [H]))
      · rcases H with ⟨h44, H⟩ | ⟨h44, H⟩
        · refine W.guard false (w := ((c23 == c25) == true)) (by kernel_rfl) (congrArg (fun b => b == true) (congr (congrArg (fun x y => x == y) (bfalse h27)) h44)) ?_
          refine W.guard false (w := ((c23 == c25) == true)) (by kernel_rfl) (congrArg (fun b => b == true) (congr (congrArg (fun x y => x == y) (bfalse h27)) h44)) ?_
          refine W.guard false (w := ((c23 == c25) == true)) (by kernel_rfl) (congrArg (fun b => b == true) (congr (congrArg (fun x y => x == y) (bfalse h27)) h44)) ?_
          refine W.guard false (w := ((c23 == c25) == true)) (by kernel_rfl) (congrArg (fun b => b == true) (congr (congrArg (fun x y => x == y) (bfalse h27)) h44)) ?_
          refine W.guard false (w := ((c23 == c25) == true)) (by kernel_rfl) (congrArg (fun b => b == true) (congr (congrArg (fun x y => x == y) (bfalse h27)) h44)) ?_
          refine W.guard false (w := ((c23 == c25) == true)) (by kernel_rfl) (congrArg (fun b => b == true) (congr (congrArg (fun x y => x == y) (bfalse h27)) h44)) ?_
          refine W.guard false (w := ((c23 == c25) == true)) (by kernel_rfl) (congrArg (fun b => b == true) (congr (congrArg (fun x y => x == y) (bfalse h27)) h44)) ?_
          refine W.guard false (w := ((c23 == c25) == true)) (by kernel_rfl) (congrArg (fun b => b == true) (congr (congrArg (fun x y => x == y) (bfalse h27)) h44)) ?_
          refine W.opS (OpIs.pk false (t := (c23 == c25)) (x := (.tuple [])) (y := (.bool false)) (by kernel_rfl) (congr (congrArg (fun x y => x == y) (bfalse h27)) h44)) ?_
          refine W.adv 7 ?_
          exact W.fin (x := .ret) (by kernel_rfl) (LAns.of (d := (.bool false)) (by kernel_rfl) (by rw [H]))
        · refine W.guard true (w := ((c23 == c25) == true)) (by kernel_rfl) (congrArg (fun b => b == true) (congr (congrArg (fun x y => x == y) (bfalse h27)) (bfalse h44))) ?_
          refine W.adv 1 ?_
          refine W.guard true (w := ((c23 == c25) == true)) (by kernel_rfl) (congrArg (fun b => b == true) (congr (congrArg (fun x y => x == y) (bfalse h27)) (bfalse h44))) ?_
          obtain ⟨c45_0, c45_1, c45_2, hc46, H⟩ := H
          refine W.callR (g := 28) (ds := [(.agg [(.bool c3_0), (.ints .u64 c3_1), (.ints .u64 c3_2)])]) (es := [(.agg [(.bool c3_0), (.ints .u64 c3_1), (.ints .u64 c3_2)])]) (r := (.agg [(.bool c45_0), (.ints .u64 c45_1), (.ints .u64 c45_2)])) (by kernel_rfl) (by kernel_rfl) (Ic.args hc46 (by kernel_rfl)) (by kernel_rfl) ?_
          refine W.guard true (w := ((c23 == c25) == true)) (by kernel_rfl) (congrArg (fun b => b == true) (congr (congrArg (fun x y => x == y) (bfalse h27)) (bfalse h44))) ?_
          obtain ⟨c47_0, c47_1, c47_2, hc48, H⟩ := H
          refine W.callR (g := 30) (ds := [(.int .i64 1), (.int .i64 1)]) (es := [(.int .i64 1), (.int .i64 1)]) (r := (.agg [(.bool c47_0), (.ints .i64 c47_1), (.ints .i64 c47_2)])) (by kernel_rfl) (by kernel_rfl) (Ic.args hc48 (by kernel_rfl)) (by kernel_rfl) ?_
          refine W.guard true (w := ((c23 == c25) == true)) (by kernel_rfl) (congrArg (fun b => b == true) (congr (congrArg (fun x y => x == y) (bfalse h27)) (bfalse h44))) ?_
          refine W.adv 1 ?_
          refine W.guard true (w := ((c23 == c25) == true)) (by kernel_rfl) (congrArg (fun b => b == true) (congr (congrArg (fun x y => x == y) (bfalse h27)) (bfalse h44))) ?_
          obtain ⟨c49_0, c49_1, c49_2, hc50, H⟩ := H
          refine W.callR (g := 31) (ds := [(.agg [(.bool c3_0), (.ints .u64 c3_1), (.ints .u64 c3_2)])]) (es := [(.agg [(.bool c3_0), (.ints .u64 c3_1), (.ints .u64 c3_2)])]) (r := (.agg [(.bool c49_0), (.ints .i64 c49_1), (.ints .i64 c49_2)])) (by kernel_rfl) (by kernel_rfl) (Ic.args hc50 (by kernel_rfl)) (by kernel_rfl) ?_
          refine W.guard true (w := ((c23 == c25) == true)) (by kernel_rfl) (congrArg (fun b => b == true) (congr (congrArg (fun x y => x == y) (bfalse h27)) (bfalse h44))) ?_
          obtain ⟨c51_0, c51_1, c51_2, hc52, H⟩ := H
          refine W.callR (g := 29) (ds := [(.agg [(.bool c47_0), (.ints .i64 c47_1), (.ints .i64 c47_2)]), (.agg [(.bool c49_0), (.ints .i64 c49_1), (.ints .i64 c49_2)])]) (es := [(.agg [(.bool c47_0), (.ints .i64 c47_1), (.ints .i64 c47_2)]), (.agg [(.bool c49_0), (.ints .i64 c49_1), (.ints .i64 c49_2)])]) (r := (.agg [(.bool c51_0), (.ints .i64 c51_1), (.ints .i64 c51_2)])) (by kernel_rfl) (by kernel_rfl) (Ic.args hc52 (by kernel_rfl)) (by kernel_rfl) ?_
          refine W.guard true (w := ((c23 == c25) == true)) (by kernel_rfl) (congrArg (fun b => b == true) (congr (congrArg (fun x y => x == y) (bfalse h27)) (bfalse h44))) ?_
          obtain ⟨c53_0, c53_1, c53_2, hc54, H⟩ := H
          refine W.callR (g := 13) (ds := [(.agg [(.bool c51_0), (.ints .i64 c51_1), (.ints .i64 c51_2)])]) (es := [(.agg [(.bool c51_0), (.ints .i64 c51_1), (.ints .i64 c51_2)])]) (r := (.agg [(.bool c53_0), (.ints .u64 c53_1), (.ints .u64 c53_2)])) (by kernel_rfl) (by kernel_rfl) (Ic.args hc54 (by kernel_rfl)) (by kernel_rfl) ?_
          refine W.guard true (w := ((c23 == c25) == true)) (by kernel_rfl) (congrArg (fun b => b == true) (congr (congrArg (fun x y => x == y) (bfalse h27)) (bfalse h44))) ?_
          obtain ⟨c55, hc56, H⟩ := H
          refine W.callR (g := 12) (ds := [(.agg [(.bool c45_0), (.ints .u64 c45_1), (.ints .u64 c45_2)]), (.agg [(.bool c53_0), (.ints .u64 c53_1), (.ints .u64 c53_2)])]) (es := [(.agg [(.bool c45_0), (.ints .u64 c45_1), (.ints .u64 c45_2)]), (.agg [(.bool c53_0), (.ints .u64 c53_1), (.ints .u64 c53_2)])]) (r := (.bool c55)) (by kernel_rfl) (by kernel_rfl) (Ic.args hc56 (by kernel_rfl)) (by kernel_rfl) ?_
          refine W.opS (OpIs.pk true (t := (c23 == c25)) (x := (.bool c55)) (y := (.bool false)) (by kernel_rfl) (congr (congrArg (fun x y => x == y) (bfalse h27)) (bfalse h44))) ?_
          refine W.adv 1 ?_
          rcases H with ⟨h57, H⟩ | ⟨h57, H⟩
          · refine W.guard true (w := (c55 == true)) (by kernel_rfl) (congrArg (fun b => b == true) h57) ?_
            obtain ⟨c58, hc59, H⟩ := H
            refine W.callR (g := 32) (ds := []) (es := []) (r := (.bool c58)) (by kernel_rfl) (by kernel_rfl) (Ic.args hc59 (by kernel_rfl)) (by kernel_rfl) ?_
            refine W.opS (OpIs.pk true (t := c55) (x := (.bool c58)) (y := (.bool false)) (by kernel_rfl) h57) ?_
            refine W.adv 4 ?_
            exact W.fin (x := .ret) (by kernel_rfl) (LAns.of (d := (.bool c58)) (by kernel_rfl) (by rw [H]))
          · refine W.guard false (w := (c55 == true)) (by kernel_rfl) (congrArg (fun b => b == true) (bfalse h57)) ?_
            refine W.opS (OpIs.pk false (t := c55) (x := (.tuple [])) (y := (.bool false)) (by kernel_rfl) (bfalse h57)) ?_
            refine W.adv 4 ?_
            exact W.fin (x := .ret) (by kernel_rfl) (LAns.of (d := (.bool false)) (by kernel_rfl) (by rw [H]))
    · refine W.guard false (w := (c20 == true)) (by kernel_rfl) (congrArg (fun b => b == true) (bfalse h22)) ?_
      refine W.guard false (w := (c20 == true)) (by kernel_rfl) (congrArg (fun b => b == true) (bfalse h22)) ?_
      refine W.guard false (w := (c20 == true)) (by kernel_rfl) (congrArg (fun b => b == true) (bfalse h22)) ?_
      refine W.guard false (w := (c20 == true)) (by kernel_rfl) (congrArg (fun b => b == true) (bfalse h22)) ?_
      refine W.guard false (w := (c20 == true)) (by kernel_rfl) (congrArg (fun b => b == true) (bfalse h22)) ?_
      refine W.opS (OpIs.pk false (t := c20) (x := (.tuple [])) (y := (.bool false)) (by kernel_rfl) (bfalse h22)) ?_
      refine W.adv 17 ?_
      exact W.fin (x := .ret) (by kernel_rfl) (LAns.of (d := (.bool false)) (by kernel_rfl) (by rw [H]))
  · refine W.guard false (w := (c11 == true)) (by kernel_rfl) (congrArg (fun b => b == true) (bfalse h13)) ?_
    refine W.guard false (w := (c11 == true)) (by kernel_rfl) (congrArg (fun b => b == true) (bfalse h13)) ?_
    refine W.guard false (w := (c11 == true)) (by kernel_rfl) (congrArg (fun b => b == true) (bfalse h13)) ?_
    refine W.guard false (w := (c11 == true)) (by kernel_rfl) (congrArg (fun b => b == true) (bfalse h13)) ?_
    refine W.guard false (w := (c11 == true)) (by kernel_rfl) (congrArg (fun b => b == true) (bfalse h13)) ?_
    refine W.guard false (w := (c11 == true)) (by kernel_rfl) (congrArg (fun b => b == true) (bfalse h13)) ?_
    refine W.opS (OpIs.pk false (t := c11) (x := (.tuple [])) (y := (.bool false)) (by kernel_rfl) (bfalse h13)) ?_
    refine W.adv 24 ?_
    exact W.fin (x := .ret) (by kernel_rfl) (LAns.of (d := (.bool false)) (by kernel_rfl) (by rw [H]))
end Go.Proofs.YteepbjndbemcdaaGreatA
