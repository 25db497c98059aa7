/- Walks through the functions: what makes each relation true. -/
import Derived.Test.YtcmajlphfnihgaaW0
set_option linter.unusedVariables false
set_option maxRecDepth 100000
namespace Go.Proofs.YtcmajlphfnihgaaA
open Go Go.Proofs
/-! ### trivium/triviumlaw08.RatField -/
theorem law08_RatField_go {a0_0 : Bool} {a0_1 : List Int} {a0_2 : List Int} {a1_0 : Bool} {a1_1 : List Int} {a1_2 : List Int} {a2_0 : Bool} {a2_1 : List Int} {a2_2 : List Int} {z : Bool} (H : (∃ c1 : Bool, (law08_works_R c1 ∧ ((c1 = true ∧ (∃ c4_0 : Bool, (∃ c4_1 : List Int, (∃ c4_2 : List Int, (ref08_Clean_R a0_0 a0_1 a0_2 3 c4_0 c4_1 c4_2 ∧ (∃ c6_0 : Bool, (∃ c6_1 : List Int, (∃ c6_2 : List Int, (ref08_Clean_R a1_0 a1_1 a1_2 3 c6_0 c6_1 c6_2 ∧ (∃ c8_0 : Bool, (∃ c8_1 : List Int, (∃ c8_2 : List Int, (ref08_Clean_R a2_0 a2_1 a2_2 3 c8_0 c8_1 c8_2 ∧ (∃ c10_0 : Bool, (∃ c10_1 : List Int, (∃ c10_2 : List Int, (rat_Add_R c4_0 c4_1 c4_2 c6_0 c6_1 c6_2 c10_0 c10_1 c10_2 ∧ (∃ c12_0 : Bool, (∃ c12_1 : List Int, (∃ c12_2 : List Int, (rat_Mul_R c4_0 c4_1 c4_2 c6_0 c6_1 c6_2 c12_0 c12_1 c12_2 ∧ (∃ c14 : Bool, (rat_May_R c10_0 c10_1 c10_2 c14 ∧ ((c14 = true ∧ (∃ c17 : Bool, (rat_May_R c12_0 c12_1 c12_2 c17 ∧ ((c17 = true ∧ (∃ c20_0 : Bool, (∃ c20_1 : List Int, (∃ c20_2 : List Int, (rat_Add_R c10_0 c10_1 c10_2 c8_0 c8_1 c8_2 c20_0 c20_1 c20_2 ∧ (∃ c22_0 : Bool, (∃ c22_1 : List Int, (∃ c22_2 : List Int, (rat_Add_R c8_0 c8_1 c8_2 c6_0 c6_1 c6_2 c22_0 c22_1 c22_2 ∧ (∃ c24_0 : Bool, (∃ c24_1 : List Int, (∃ c24_2 : List Int, (rat_Add_R c4_0 c4_1 c4_2 c22_0 c22_1 c22_2 c24_0 c24_1 c24_2 ∧ (∃ c26 : Bool, (rat_Same_R c20_0 c20_1 c20_2 c24_0 c24_1 c24_2 c26 ∧ ((c26 = true ∧ (∃ c29_0 : Bool, (∃ c29_1 : List Int, (∃ c29_2 : List Int, (rat_Mul_R c12_0 c12_1 c12_2 c8_0 c8_1 c8_2 c29_0 c29_1 c29_2 ∧ (∃ c31_0 : Bool, (∃ c31_1 : List Int, (∃ c31_2 : List Int, (rat_Mul_R c8_0 c8_1 c8_2 c6_0 c6_1 c6_2 c31_0 c31_1 c31_2 ∧ (∃ c33_0 : Bool, (∃ c33_1 : List Int, (∃ c33_2 : List Int, (rat_Mul_R c4_0 c4_1 c4_2 c31_0 c31_1 c31_2 c33_0 c33_1 c33_2 ∧ (∃ c35 : Bool, (rat_Same_R c29_0 c29_1 c29_2 c33_0 c33_1 c33_2 c35 ∧ ((c35 = true ∧ (∃ c38_0 : Bool, (∃ c38_1 : List Int, (∃ c38_2 : List Int, (rat_Add_R c6_0 c6_1 c6_2 c8_0 c8_1 c8_2 c38_0 c38_1 c38_2 ∧ (∃ c40_0 : Bool, (∃ c40_1 : List Int, (∃ c40_2 : List Int, (rat_Mul_R c4_0 c4_1 c4_2 c38_0 c38_1 c38_2 c40_0 c40_1 c40_2 ∧ (∃ c42_0 : Bool, (∃ c42_1 : List Int, (∃ c42_2 : List Int, (rat_Mul_R c4_0 c4_1 c4_2 c8_0 c8_1 c8_2 c42_0 c42_1 c42_2 ∧ (∃ c44_0 : Bool, (∃ c44_1 : List Int, (∃ c44_2 : List Int, (rat_Add_R c12_0 c12_1 c12_2 c42_0 c42_1 c42_2 c44_0 c44_1 c44_2 ∧ (∃ c46 : Bool, (rat_Same_R c40_0 c40_1 c40_2 c44_0 c44_1 c44_2 c46 ∧ ((c46 = true ∧ (∃ c49_0 : Bool, (∃ c49_1 : List Int, (∃ c49_2 : List Int, (rat_Sub_R c10_0 c10_1 c10_2 c6_0 c6_1 c6_2 c49_0 c49_1 c49_2 ∧ (∃ c51 : Bool, (rat_Same_R c49_0 c49_1 c49_2 c4_0 c4_1 c4_2 c51 ∧ ((c51 = true ∧ (∃ c54_0 : Bool, (∃ c54_1 : List Int, (∃ c54_2 : List Int, (rat_Add_R c4_0 c4_1 c4_2 c8_0 c8_1 c8_2 c54_0 c54_1 c54_2 ∧ (∃ c56_0 : Bool, (∃ c56_1 : List Int, (∃ c56_2 : List Int, (rat_Add_R c6_0 c6_1 c6_2 c8_0 c8_1 c8_2 c56_0 c56_1 c56_2 ∧ (∃ c58 : Int, (rat_Cmp_R c54_0 c54_1 c54_2 c56_0 c56_1 c56_2 c58 ∧ (∃ c60 : Int, (rat_Cmp_R c4_0 c4_1 c4_2 c6_0 c6_1 c6_2 c60 ∧ ((c58 = c60 ∧ (∃ c63 : Int, (rat_Cmp_R c4_0 c4_1 c4_2 c6_0 c6_1 c6_2 c63 ∧ (∃ c65 : Bool, (rat_Same_R c4_0 c4_1 c4_2 c6_0 c6_1 c6_2 c65 ∧ ((c63 = 0 ∧ ((c65 = true ∧ (∃ c69t0_0 : Bool, (∃ c69t0_1 : List Int, (∃ c69t0_2 : List Int, (∃ c69t1 : Int, (rat_Div_R c12_0 c12_1 c12_2 c6_0 c6_1 c6_2 c69t0_0 c69t0_1 c69t0_2 c69t1 ∧ ((c69t1 = 0 ∧ (∃ c72 : Bool, (rat_Same_R c69t0_0 c69t0_1 c69t0_2 c4_0 c4_1 c4_2 c72 ∧ ((c72 = true ∧ (∃ c75 : Bool, (rat_May_R c69t0_0 c69t0_1 c69t0_2 c75 ∧ (z = c75)))) ∨ (¬ c72 = true ∧ (z = false)))))) ∨ (¬ c69t1 = 0 ∧ (∃ c77 : Int, (rat_Sign_R c6_0 c6_1 c6_2 c77 ∧ (z = (decide (c77 = 0))))))))))))) ∨ (¬ c65 = true ∧ (z = false)))) ∨ (¬ c63 = 0 ∧ ((c65 = true ∧ (z = false)) ∨ (¬ c65 = true ∧ (∃ c80t0_0 : Bool, (∃ c80t0_1 : List Int, (∃ c80t0_2 : List Int, (∃ c80t1 : Int, (rat_Div_R c12_0 c12_1 c12_2 c6_0 c6_1 c6_2 c80t0_0 c80t0_1 c80t0_2 c80t1 ∧ ((c80t1 = 0 ∧ (∃ c83 : Bool, (rat_Same_R c80t0_0 c80t0_1 c80t0_2 c4_0 c4_1 c4_2 c83 ∧ ((c83 = true ∧ (∃ c86 : Bool, (rat_May_R c80t0_0 c80t0_1 c80t0_2 c86 ∧ (z = c86)))) ∨ (¬ c83 = true ∧ (z = false)))))) ∨ (¬ c80t1 = 0 ∧ (∃ c88 : Int, (rat_Sign_R c6_0 c6_1 c6_2 c88 ∧ (z = (decide (c88 = 0))))))))))))))))))))) ∨ (¬ c58 = c60 ∧ (z = false)))))))))))))))) ∨ (¬ c51 = true ∧ (z = false)))))))))) ∨ (¬ c46 = true ∧ (z = false)))))))))))))))))))))) ∨ (¬ c35 = true ∧ (z = false)))))))))))))))))) ∨ (¬ c26 = true ∧ (z = false)))))))))))))))))) ∨ (¬ c17 = true ∧ (z = false)))))) ∨ (¬ c14 = true ∧ (z = false)))))))))))))))))))))))))) ∨ (¬ c1 = true ∧ (z = false)))))) : law08_RatField_R a0_0 a0_1 a0_2 a1_0 a1_1 a1_2 a2_0 a2_1 a2_2 z := by
  refine W.lawIs (zs := [(.agg [(.bool a0_0), (.ints .u64 a0_1), (.ints .u64 a0_2)]), (.agg [(.bool a1_0), (.ints .u64 a1_1), (.ints .u64 a1_2)]), (.agg [(.bool a2_0), (.ints .u64 a2_1), (.ints .u64 a2_2)])]) Try.func11 (by kernel_rfl) (by kernel_rfl) (by kernel_rfl) ?_
  refine W.adv 11 ?_
  obtain ⟨c1, hc2, H⟩ := H
  refine W.callR (g := 31) (ds := []) (es := []) (r := (.bool c1)) (by kernel_rfl) (by kernel_rfl) (Ic.args hc2 (by kernel_rfl)) (by kernel_rfl) ?_
  refine W.adv 3 ?_
  rcases H with ⟨h3, H⟩ | ⟨h3, H⟩
  · refine W.cond false (w := (!c1)) (by kernel_rfl) (congrArg (fun b => !b) h3) ?_
    refine W.adv 5 ?_
    obtain ⟨c4_0, c4_1, c4_2, hc5, H⟩ := H
    refine W.callR (g := 42) (ds := [(.agg [(.bool a0_0), (.ints .u64 a0_1), (.ints .u64 a0_2)]), (.int .i64 3)]) (es := [(.agg [(.bool a0_0), (.ints .u64 a0_1), (.ints .u64 a0_2)]), (.int .i64 3)]) (r := (.agg [(.bool c4_0), (.ints .u64 c4_1), (.ints .u64 c4_2)])) (by kernel_rfl) (by kernel_rfl) (Ic.args hc5 (by kernel_rfl)) (by kernel_rfl) ?_
    refine W.adv 1 ?_
    obtain ⟨c6_0, c6_1, c6_2, hc7, H⟩ := H
    refine W.callR (g := 42) (ds := [(.agg [(.bool a1_0), (.ints .u64 a1_1), (.ints .u64 a1_2)]), (.int .i64 3)]) (es := [(.agg [(.bool a1_0), (.ints .u64 a1_1), (.ints .u64 a1_2)]), (.int .i64 3)]) (r := (.agg [(.bool c6_0), (.ints .u64 c6_1), (.ints .u64 c6_2)])) (by kernel_rfl) (by kernel_rfl) (Ic.args hc7 (by kernel_rfl)) (by kernel_rfl) ?_
    refine W.adv 1 ?_
    obtain ⟨c8_0, c8_1, c8_2, hc9, H⟩ := H
    refine W.callR (g := 42) (ds := [(.agg [(.bool a2_0), (.ints .u64 a2_1), (.ints .u64 a2_2)]), (.int .i64 3)]) (es := [(.agg [(.bool a2_0), (.ints .u64 a2_1), (.ints .u64 a2_2)]), (.int .i64 3)]) (r := (.agg [(.bool c8_0), (.ints .u64 c8_1), (.ints .u64 c8_2)])) (by kernel_rfl) (by kernel_rfl) (Ic.args hc9 (by kernel_rfl)) (by kernel_rfl) ?_
    refine W.adv 9 ?_
    obtain ⟨c10_0, c10_1, c10_2, hc11, H⟩ := H
    refine W.callR (g := 51) (ds := [(.agg [(.bool c4_0), (.ints .u64 c4_1), (.ints .u64 c4_2)]), (.agg [(.bool c6_0), (.ints .u64 c6_1), (.ints .u64 c6_2)])]) (es := [(.agg [(.bool c4_0), (.ints .u64 c4_1), (.ints .u64 c4_2)]), (.agg [(.bool c6_0), (.ints .u64 c6_1), (.ints .u64 c6_2)])]) (r := (.agg [(.bool c10_0), (.ints .u64 c10_1), (.ints .u64 c10_2)])) (by kernel_rfl) (by kernel_rfl) (Ic.args hc11 (by kernel_rfl)) (by kernel_rfl) ?_
    refine W.adv 2 ?_
    obtain ⟨c12_0, c12_1, c12_2, hc13, H⟩ := H
    refine W.callR (g := 55) (ds := [(.agg [(.bool c4_0), (.ints .u64 c4_1), (.ints .u64 c4_2)]), (.agg [(.bool c6_0), (.ints .u64 c6_1), (.ints .u64 c6_2)])]) (es := [(.agg [(.bool c4_0), (.ints .u64 c4_1), (.ints .u64 c4_2)]), (.agg [(.bool c6_0), (.ints .u64 c6_1), (.ints .u64 c6_2)])]) (r := (.agg [(.bool c12_0), (.ints .u64 c12_1), (.ints .u64 c12_2)])) (by kernel_rfl) (by kernel_rfl) (Ic.args hc13 (by kernel_rfl)) (by kernel_rfl) ?_
    refine W.adv 10 ?_
    obtain ⟨c14, hc15, H⟩ := H
    refine W.callR (g := 40) (ds := [(.agg [(.bool c10_0), (.ints .u64 c10_1), (.ints .u64 c10_2)])]) (es := [(.agg [(.bool c10_0), (.ints .u64 c10_1), (.ints .u64 c10_2)])]) (r := (.bool c14)) (by kernel_rfl) (by kernel_rfl) (Ic.args hc15 (by kernel_rfl)) (by kernel_rfl) ?_
    refine W.adv 2 ?_
    rcases H with ⟨h16, H⟩ | ⟨h16, H⟩
    · refine W.guard true (w := ((!c14) == false)) (by kernel_rfl) (congrArg (fun b => b == false) (congrArg (fun b => !b) h16)) ?_
      refine W.adv 1 ?_
      refine W.guard true (w := ((!c14) == false)) (by kernel_rfl) (congrArg (fun b => b == false) (congrArg (fun b => !b) h16)) ?_
      obtain ⟨c17, hc18, H⟩ := H
      refine W.callR (g := 40) (ds := [(.agg [(.bool c12_0), (.ints .u64 c12_1), (.ints .u64 c12_2)])]) (es := [(.agg [(.bool c12_0), (.ints .u64 c12_1), (.ints .u64 c12_2)])]) (r := (.bool c17)) (by kernel_rfl) (by kernel_rfl) (Ic.args hc18 (by kernel_rfl)) (by kernel_rfl) ?_
      refine W.guard true (w := ((!c14) == false)) (by kernel_rfl) (congrArg (fun b => b == false) (congrArg (fun b => !b) h16)) ?_
      refine W.adv 1 ?_
      refine W.opS (OpIs.pk false (t := (!c14)) (x := (.bool true)) (y := (.bool (!c17))) (by kernel_rfl) (congrArg (fun b => !b) h16)) ?_
      refine W.adv 1 ?_
      rcases H with ⟨h19, H⟩ | ⟨h19, H⟩
      · refine W.guard true (w := ((!c17) == false)) (by kernel_rfl) (congrArg (fun b => b == false) (congrArg (fun b => !b) h19)) ?_
        refine W.adv 1 ?_
        refine W.guard true (w := ((!c17) == false)) (by kernel_rfl) (congrArg (fun b => b == false) (congrArg (fun b => !b) h19)) ?_
        refine W.adv 1 ?_
        refine W.guard true (w := ((!c17) == false)) (by kernel_rfl) (congrArg (fun b => b == false) (congrArg (fun b => !b) h19)) ?_
        obtain ⟨c20_0, c20_1, c20_2, hc21, H⟩ := H
        refine W.callR (g := 51) (ds := [(.agg [(.bool c10_0), (.ints .u64 c10_1), (.ints .u64 c10_2)]), (.agg [(.bool c8_0), (.ints .u64 c8_1), (.ints .u64 c8_2)])]) (es := [(.agg [(.bool c10_0), (.ints .u64 c10_1), (.ints .u64 c10_2)]), (.agg [(.bool c8_0), (.ints .u64 c8_1), (.ints .u64 c8_2)])]) (r := (.agg [(.bool c20_0), (.ints .u64 c20_1), (.ints .u64 c20_2)])) (by kernel_rfl) (by kernel_rfl) (Ic.args hc21 (by kernel_rfl)) (by kernel_rfl) ?_
        refine W.guard true (w := ((!c17) == false)) (by kernel_rfl) (congrArg (fun b => b == false) (congrArg (fun b => !b) h19)) ?_
        refine W.adv 1 ?_
        refine W.guard true (w := ((!c17) == false)) (by kernel_rfl) (congrArg (fun b => b == false) (congrArg (fun b => !b) h19)) ?_
        refine W.adv 1 ?_
        refine W.guard true (w := ((!c17) == false)) (by kernel_rfl) (congrArg (fun b => b == false) (congrArg (fun b => !b) h19)) ?_
        refine W.adv 1 ?_
        refine W.guard true (w := ((!c17) == false)) (by kernel_rfl) (congrArg (fun b => b == false) (congrArg (fun b => !b) h19)) ?_
        obtain ⟨c22_0, c22_1, c22_2, hc23, H⟩ := H
        refine W.callR (g := 51) (ds := [(.agg [(.bool c8_0), (.ints .u64 c8_1), (.ints .u64 c8_2)]), (.agg [(.bool c6_0), (.ints .u64 c6_1), (.ints .u64 c6_2)])]) (es := [(.agg [(.bool c8_0), (.ints .u64 c8_1), (.ints .u64 c8_2)]), (.agg [(.bool c6_0), (.ints .u64 c6_1), (.ints .u64 c6_2)])]) (r := (.agg [(.bool c22_0), (.ints .u64 c22_1), (.ints .u64 c22_2)])) (by kernel_rfl) (by kernel_rfl) (Ic.args hc23 (by kernel_rfl)) (by kernel_rfl) ?_
        refine W.guard true (w := ((!c17) == false)) (by kernel_rfl) (congrArg (fun b => b == false) (congrArg (fun b => !b) h19)) ?_
        obtain ⟨c24_0, c24_1, c24_2, hc25, H⟩ := H
        refine W.callR (g := 51) (ds := [(.agg [(.bool c4_0), (.ints .u64 c4_1), (.ints .u64 c4_2)]), (.agg [(.bool c22_0), (.ints .u64 c22_1), (.ints .u64 c22_2)])]) (es := [(.agg [(.bool c4_0), (.ints .u64 c4_1), (.ints .u64 c4_2)]), (.agg [(.bool c22_0), (.ints .u64 c22_1), (.ints .u64 c22_2)])]) (r := (.agg [(.bool c24_0), (.ints .u64 c24_1), (.ints .u64 c24_2)])) (by kernel_rfl) (by kernel_rfl) (Ic.args hc25 (by kernel_rfl)) (by kernel_rfl) ?_
        refine W.guard true (w := ((!c17) == false)) (by kernel_rfl) (congrArg (fun b => b == false) (congrArg (fun b => !b) h19)) ?_
        obtain ⟨c26, hc27, H⟩ := H
        refine W.callR (g := 61) (ds := [(.agg [(.bool c20_0), (.ints .u64 c20_1), (.ints .u64 c20_2)]), (.agg [(.bool c24_0), (.ints .u64 c24_1), (.ints .u64 c24_2)])]) (es := [(.agg [(.bool c20_0), (.ints .u64 c20_1), (.ints .u64 c20_2)]), (.agg [(.bool c24_0), (.ints .u64 c24_1), (.ints .u64 c24_2)])]) (r := (.bool c26)) (by kernel_rfl) (by kernel_rfl) (Ic.args hc27 (by kernel_rfl)) (by kernel_rfl) ?_
        refine W.guard true (w := ((!c17) == false)) (by kernel_rfl) (congrArg (fun b => b == false) (congrArg (fun b => !b) h19)) ?_
        refine W.adv 1 ?_
        refine W.opS (OpIs.pk false (t := (!c17)) (x := (.bool true)) (y := (.bool (!c26))) (by kernel_rfl) (congrArg (fun b => !b) h19)) ?_
        refine W.adv 1 ?_
        rcases H with ⟨h28, H⟩ | ⟨h28, H⟩
        · refine W.guard true (w := ((!c26) == false)) (by kernel_rfl) (congrArg (fun b => b == false) (congrArg (fun b => !b) h28)) ?_
          refine W.adv 1 ?_
          refine W.guard true (w := ((!c26) == false)) (by kernel_rfl) (congrArg (fun b => b == false) (congrArg (fun b => !b) h28)) ?_
          refine W.adv 1 ?_
          refine W.guard true (w := ((!c26) == false)) (by kernel_rfl) (congrArg (fun b => b == false) (congrArg (fun b => !b) h28)) ?_
          obtain ⟨c29_0, c29_1, c29_2, hc30, H⟩ := H
          refine W.callR (g := 55) (ds := [(.agg [(.bool c12_0), (.ints .u64 c12_1), (.ints .u64 c12_2)]), (.agg [(.bool c8_0), (.ints .u64 c8_1), (.ints .u64 c8_2)])]) (es := [(.agg [(.bool c12_0), (.ints .u64 c12_1), (.ints .u64 c12_2)]), (.agg [(.bool c8_0), (.ints .u64 c8_1), (.ints .u64 c8_2)])]) (r := (.agg [(.bool c29_0), (.ints .u64 c29_1), (.ints .u64 c29_2)])) (by kernel_rfl) (by kernel_rfl) (Ic.args hc30 (by kernel_rfl)) (by kernel_rfl) ?_
          refine W.guard true (w := ((!c26) == false)) (by kernel_rfl) (congrArg (fun b => b == false) (congrArg (fun b => !b) h28)) ?_
          refine W.adv 1 ?_
          refine W.guard true (w := ((!c26) == false)) (by kernel_rfl) (congrArg (fun b => b == false) (congrArg (fun b => !b) h28)) ?_
          refine W.adv 1 ?_
          refine W.guard true (w := ((!c26) == false)) (by kernel_rfl) (congrArg (fun b => b == false) (congrArg (fun b => !b) h28)) ?_
          refine W.adv 1 ?_
          refine W.guard true (w := ((!c26) == false)) (by kernel_rfl) (congrArg (fun b => b == false) (congrArg (fun b => !b) h28)) ?_
          obtain ⟨c31_0, c31_1, c31_2, hc32, H⟩ := H
          refine W.callR (g := 55) (ds := [(.agg [(.bool c8_0), (.ints .u64 c8_1), (.ints .u64 c8_2)]), (.agg [(.bool c6_0), (.ints .u64 c6_1), (.ints .u64 c6_2)])]) (es := [(.agg [(.bool c8_0), (.ints .u64 c8_1), (.ints .u64 c8_2)]), (.agg [(.bool c6_0), (.ints .u64 c6_1), (.ints .u64 c6_2)])]) (r := (.agg [(.bool c31_0), (.ints .u64 c31_1), (.ints .u64 c31_2)])) (by kernel_rfl) (by kernel_rfl) (Ic.args hc32 (by kernel_rfl)) (by kernel_rfl) ?_
          refine W.guard true (w := ((!c26) == false)) (by kernel_rfl) (congrArg (fun b => b == false) (congrArg (fun b => !b) h28)) ?_
          obtain ⟨c33_0, c33_1, c33_2, hc34, H⟩ := H
          refine W.callR (g := 55) (ds := [(.agg [(.bool c4_0), (.ints .u64 c4_1), (.ints .u64 c4_2)]), (.agg [(.bool c31_0), (.ints .u64 c31_1), (.ints .u64 c31_2)])]) (es := [(.agg [(.bool c4_0), (.ints .u64 c4_1), (.ints .u64 c4_2)]), (.agg [(.bool c31_0), (.ints .u64 c31_1), (.ints .u64 c31_2)])]) (r := (.agg [(.bool c33_0), (.ints .u64 c33_1), (.ints .u64 c33_2)])) (by kernel_rfl) (by kernel_rfl) (Ic.args hc34 (by kernel_rfl)) (by kernel_rfl) ?_
          refine W.guard true (w := ((!c26) == false)) (by kernel_rfl) (congrArg (fun b => b == false) (congrArg (fun b => !b) h28)) ?_
          obtain ⟨c35, hc36, H⟩ := H
          refine W.callR (g := 61) (ds := [(.agg [(.bool c29_0), (.ints .u64 c29_1), (.ints .u64 c29_2)]), (.agg [(.bool c33_0), (.ints .u64 c33_1), (.ints .u64 c33_2)])]) (es := [(.agg [(.bool c29_0), (.ints .u64 c29_1), (.ints .u64 c29_2)]), (.agg [(.bool c33_0), (.ints .u64 c33_1), (.ints .u64 c33_2)])]) (r := (.bool c35)) (by kernel_rfl) (by kernel_rfl) (Ic.args hc36 (by kernel_rfl)) (by kernel_rfl) ?_
          refine W.guard true (w := ((!c26) == false)) (by kernel_rfl) (congrArg (fun b => b == false) (congrArg (fun b => !b) h28)) ?_
          refine W.adv 1 ?_
          refine W.opS (OpIs.pk false (t := (!c26)) (x := (.bool true)) (y := (.bool (!c35))) (by kernel_rfl) (congrArg (fun b => !b) h28)) ?_
          refine W.adv 2 ?_
          rcases H with ⟨h37, H⟩ | ⟨h37, H⟩
          · refine W.cond false (w := (!c35)) (by kernel_rfl) (congrArg (fun b => !b) h37) ?_
            refine W.adv 8 ?_
            obtain ⟨c38_0, c38_1, c38_2, hc39, H⟩ := H
            refine W.callR (g := 51) (ds := [(.agg [(.bool c6_0), (.ints .u64 c6_1), (.ints .u64 c6_2)]), (.agg [(.bool c8_0), (.ints .u64 c8_1), (.ints .u64 c8_2)])]) (es := [(.agg [(.bool c6_0), (.ints .u64 c6_1), (.ints .u64 c6_2)]), (.agg [(.bool c8_0), (.ints .u64 c8_1), (.ints .u64 c8_2)])]) (r := (.agg [(.bool c38_0), (.ints .u64 c38_1), (.ints .u64 c38_2)])) (by kernel_rfl) (by kernel_rfl) (Ic.args hc39 (by kernel_rfl)) (by kernel_rfl) ?_
            obtain ⟨c40_0, c40_1, c40_2, hc41, H⟩ := H
            refine W.callR (g := 55) (ds := [(.agg [(.bool c4_0), (.ints .u64 c4_1), (.ints .u64 c4_2)]), (.agg [(.bool c38_0), (.ints .u64 c38_1), (.ints .u64 c38_2)])]) (es := [(.agg [(.bool c4_0), (.ints .u64 c4_1), (.ints .u64 c4_2)]), (.agg [(.bool c38_0), (.ints .u64 c38_1), (.ints .u64 c38_2)])]) (r := (.agg [(.bool c40_0), (.ints .u64 c40_1), (.ints .u64 c40_2)])) (by kernel_rfl) (by kernel_rfl) (Ic.args hc41 (by kernel_rfl)) (by kernel_rfl) ?_
            refine W.adv 3 ?_
            obtain ⟨c42_0, c42_1, c42_2, hc43, H⟩ := H
            refine W.callR (g := 55) (ds := [(.agg [(.bool c4_0), (.ints .u64 c4_1), (.ints .u64 c4_2)]), (.agg [(.bool c8_0), (.ints .u64 c8_1), (.ints .u64 c8_2)])]) (es := [(.agg [(.bool c4_0), (.ints .u64 c4_1), (.ints .u64 c4_2)]), (.agg [(.bool c8_0), (.ints .u64 c8_1), (.ints .u64 c8_2)])]) (r := (.agg [(.bool c42_0), (.ints .u64 c42_1), (.ints .u64 c42_2)])) (by kernel_rfl) (by kernel_rfl) (Ic.args hc43 (by kernel_rfl)) (by kernel_rfl) ?_
            obtain ⟨c44_0, c44_1, c44_2, hc45, H⟩ := H
            refine W.callR (g := 51) (ds := [(.agg [(.bool c12_0), (.ints .u64 c12_1), (.ints .u64 c12_2)]), (.agg [(.bool c42_0), (.ints .u64 c42_1), (.ints .u64 c42_2)])]) (es := [(.agg [(.bool c12_0), (.ints .u64 c12_1), (.ints .u64 c12_2)]), (.agg [(.bool c42_0), (.ints .u64 c42_1), (.ints .u64 c42_2)])]) (r := (.agg [(.bool c44_0), (.ints .u64 c44_1), (.ints .u64 c44_2)])) (by kernel_rfl) (by kernel_rfl) (Ic.args hc45 (by kernel_rfl)) (by kernel_rfl) ?_
            obtain ⟨c46, hc47, H⟩ := H
            refine W.callR (g := 61) (ds := [(.agg [(.bool c40_0), (.ints .u64 c40_1), (.ints .u64 c40_2)]), (.agg [(.bool c44_0), (.ints .u64 c44_1), (.ints .u64 c44_2)])]) (es := [(.agg [(.bool c40_0), (.ints .u64 c40_1), (.ints .u64 c40_2)]), (.agg [(.bool c44_0), (.ints .u64 c44_1), (.ints .u64 c44_2)])]) (r := (.bool c46)) (by kernel_rfl) (by kernel_rfl) (Ic.args hc47 (by kernel_rfl)) (by kernel_rfl) ?_
            refine W.adv 2 ?_
            rcases H with ⟨h48, H⟩ | ⟨h48, H⟩
            · refine W.guard true (w := ((!c46) == false)) (by kernel_rfl) (congrArg (fun b => b == false) (congrArg (fun b => !b) h48)) ?_
              refine W.adv 1 ?_
              refine W.guard true (w := ((!c46) == false)) (by kernel_rfl) (congrArg (fun b => b == false) (congrArg (fun b => !b) h48)) ?_
              refine W.adv 1 ?_
              refine W.guard true (w := ((!c46) == false)) (by kernel_rfl) (congrArg (fun b => b == false) (congrArg (fun b => !b) h48)) ?_
              obtain ⟨c49_0, c49_1, c49_2, hc50, H⟩ := H
              refine W.callR (g := 53) (ds := [(.agg [(.bool c10_0), (.ints .u64 c10_1), (.ints .u64 c10_2)]), (.agg [(.bool c6_0), (.ints .u64 c6_1), (.ints .u64 c6_2)])]) (es := [(.agg [(.bool c10_0), (.ints .u64 c10_1), (.ints .u64 c10_2)]), (.agg [(.bool c6_0), (.ints .u64 c6_1), (.ints .u64 c6_2)])]) (r := (.agg [(.bool c49_0), (.ints .u64 c49_1), (.ints .u64 c49_2)])) (by kernel_rfl) (by kernel_rfl) (Ic.args hc50 (by kernel_rfl)) (by kernel_rfl) ?_
              refine W.guard true (w := ((!c46) == false)) (by kernel_rfl) (congrArg (fun b => b == false) (congrArg (fun b => !b) h48)) ?_
              refine W.adv 1 ?_
              refine W.guard true (w := ((!c46) == false)) (by kernel_rfl) (congrArg (fun b => b == false) (congrArg (fun b => !b) h48)) ?_
              obtain ⟨c51, hc52, H⟩ := H
              refine W.callR (g := 61) (ds := [(.agg [(.bool c49_0), (.ints .u64 c49_1), (.ints .u64 c49_2)]), (.agg [(.bool c4_0), (.ints .u64 c4_1), (.ints .u64 c4_2)])]) (es := [(.agg [(.bool c49_0), (.ints .u64 c49_1), (.ints .u64 c49_2)]), (.agg [(.bool c4_0), (.ints .u64 c4_1), (.ints .u64 c4_2)])]) (r := (.bool c51)) (by kernel_rfl) (by kernel_rfl) (Ic.args hc52 (by kernel_rfl)) (by kernel_rfl) ?_
              refine W.guard true (w := ((!c46) == false)) (by kernel_rfl) (congrArg (fun b => b == false) (congrArg (fun b => !b) h48)) ?_
              refine W.adv 1 ?_
              refine W.opS (OpIs.pk false (t := (!c46)) (x := (.bool true)) (y := (.bool (!c51))) (by kernel_rfl) (congrArg (fun b => !b) h48)) ?_
              refine W.adv 1 ?_
              rcases H with ⟨h53, H⟩ | ⟨h53, H⟩
              · refine W.guard true (w := ((!c51) == false)) (by kernel_rfl) (congrArg (fun b => b == false) (congrArg (fun b => !b) h53)) ?_
                refine W.adv 1 ?_
                refine W.guard true (w := ((!c51) == false)) (by kernel_rfl) (congrArg (fun b => b == false) (congrArg (fun b => !b) h53)) ?_
                refine W.adv 1 ?_
                refine W.guard true (w := ((!c51) == false)) (by kernel_rfl) (congrArg (fun b => b == false) (congrArg (fun b => !b) h53)) ?_
                obtain ⟨c54_0, c54_1, c54_2, hc55, H⟩ := H
                refine W.callR (g := 51) (ds := [(.agg [(.bool c4_0), (.ints .u64 c4_1), (.ints .u64 c4_2)]), (.agg [(.bool c8_0), (.ints .u64 c8_1), (.ints .u64 c8_2)])]) (es := [(.agg [(.bool c4_0), (.ints .u64 c4_1), (.ints .u64 c4_2)]), (.agg [(.bool c8_0), (.ints .u64 c8_1), (.ints .u64 c8_2)])]) (r := (.agg [(.bool c54_0), (.ints .u64 c54_1), (.ints .u64 c54_2)])) (by kernel_rfl) (by kernel_rfl) (Ic.args hc55 (by kernel_rfl)) (by kernel_rfl) ?_
                refine W.guard true (w := ((!c51) == false)) (by kernel_rfl) (congrArg (fun b => b == false) (congrArg (fun b => !b) h53)) ?_
                refine W.adv 1 ?_
                refine W.guard true (w := ((!c51) == false)) (by kernel_rfl) (congrArg (fun b => b == false) (congrArg (fun b => !b) h53)) ?_
                refine W.adv 1 ?_
                refine W.guard true (w := ((!c51) == false)) (by kernel_rfl) (congrArg (fun b => b == false) (congrArg (fun b => !b) h53)) ?_
                obtain ⟨c56_0, c56_1, c56_2, hc57, H⟩ := H
                refine W.callR (g := 51) (ds := [(.agg [(.bool c6_0), (.ints .u64 c6_1), (.ints .u64 c6_2)]), (.agg [(.bool c8_0), (.ints .u64 c8_1), (.ints .u64 c8_2)])]) (es := [(.agg [(.bool c6_0), (.ints .u64 c6_1), (.ints .u64 c6_2)]), (.agg [(.bool c8_0), (.ints .u64 c8_1), (.ints .u64 c8_2)])]) (r := (.agg [(.bool c56_0), (.ints .u64 c56_1), (.ints .u64 c56_2)])) (by kernel_rfl) (by kernel_rfl) (Ic.args hc57 (by kernel_rfl)) (by kernel_rfl) ?_
                refine W.guard true (w := ((!c51) == false)) (by kernel_rfl) (congrArg (fun b => b == false) (congrArg (fun b => !b) h53)) ?_
                obtain ⟨c58, hc59, H⟩ := H
                refine W.callR (g := 57) (ds := [(.agg [(.bool c54_0), (.ints .u64 c54_1), (.ints .u64 c54_2)]), (.agg [(.bool c56_0), (.ints .u64 c56_1), (.ints .u64 c56_2)])]) (es := [(.agg [(.bool c54_0), (.ints .u64 c54_1), (.ints .u64 c54_2)]), (.agg [(.bool c56_0), (.ints .u64 c56_1), (.ints .u64 c56_2)])]) (r := (.int .i64 c58)) (by kernel_rfl) (by kernel_rfl) (Ic.args hc59 (by kernel_rfl)) (by kernel_rfl) ?_
                refine W.guard true (w := ((!c51) == false)) (by kernel_rfl) (congrArg (fun b => b == false) (congrArg (fun b => !b) h53)) ?_
                refine W.adv 1 ?_
                refine W.guard true (w := ((!c51) == false)) (by kernel_rfl) (congrArg (fun b => b == false) (congrArg (fun b => !b) h53)) ?_
                refine W.adv 1 ?_
                refine W.guard true (w := ((!c51) == false)) (by kernel_rfl) (congrArg (fun b => b == false) (congrArg (fun b => !b) h53)) ?_
                obtain ⟨c60, hc61, H⟩ := H
                refine W.callR (g := 57) (ds := [(.agg [(.bool c4_0), (.ints .u64 c4_1), (.ints .u64 c4_2)]), (.agg [(.bool c6_0), (.ints .u64 c6_1), (.ints .u64 c6_2)])]) (es := [(.agg [(.bool c4_0), (.ints .u64 c4_1), (.ints .u64 c4_2)]), (.agg [(.bool c6_0), (.ints .u64 c6_1), (.ints .u64 c6_2)])]) (r := (.int .i64 c60)) (by kernel_rfl) (by kernel_rfl) (Ic.args hc61 (by kernel_rfl)) (by kernel_rfl) ?_
                refine W.guard true (w := ((!c51) == false)) (by kernel_rfl) (congrArg (fun b => b == false) (congrArg (fun b => !b) h53)) ?_
                refine W.adv 1 ?_
                refine W.opS (OpIs.pk false (t := (!c51)) (x := (.bool true)) (y := (.bool (!(decide (c58 = c60))))) (by kernel_rfl) (congrArg (fun b => !b) h53)) ?_
                refine W.adv 1 ?_
                rcases H with ⟨h62, H⟩ | ⟨h62, H⟩
                · refine W.guard true (w := ((!(decide (c58 = c60))) == false)) (by kernel_rfl) (congrArg (fun b => b == false) (congrArg (fun b => !b) (decide_eq_true h62))) ?_
                  refine W.adv 1 ?_
                  refine W.guard true (w := ((!(decide (c58 = c60))) == false)) (by kernel_rfl) (congrArg (fun b => b == false) (congrArg (fun b => !b) (decide_eq_true h62))) ?_
                  refine W.adv 1 ?_
                  refine W.guard true (w := ((!(decide (c58 = c60))) == false)) (by kernel_rfl) (congrArg (fun b => b == false) (congrArg (fun b => !b) (decide_eq_true h62))) ?_
                  obtain ⟨c63, hc64, H⟩ := H
                  refine W.callR (g := 57) (ds := [(.agg [(.bool c4_0), (.ints .u64 c4_1), (.ints .u64 c4_2)]), (.agg [(.bool c6_0), (.ints .u64 c6_1), (.ints .u64 c6_2)])]) (es := [(.agg [(.bool c4_0), (.ints .u64 c4_1), (.ints .u64 c4_2)]), (.agg [(.bool c6_0), (.ints .u64 c6_1), (.ints .u64 c6_2)])]) (r := (.int .i64 c63)) (by kernel_rfl) (by kernel_rfl) (Ic.args hc64 (by kernel_rfl)) (by kernel_rfl) ?_
                  refine W.guard true (w := ((!(decide (c58 = c60))) == false)) (by kernel_rfl) (congrArg (fun b => b == false) (congrArg (fun b => !b) (decide_eq_true h62))) ?_
                  refine W.adv 1 ?_
                  refine W.guard true (w := ((!(decide (c58 = c60))) == false)) (by kernel_rfl) (congrArg (fun b => b == false) (congrArg (fun b => !b) (decide_eq_true h62))) ?_
                  refine W.adv 1 ?_
                  refine W.guard true (w := ((!(decide (c58 = c60))) == false)) (by kernel_rfl) (congrArg (fun b => b == false) (congrArg (fun b => !b) (decide_eq_true h62))) ?_
                  refine W.adv 1 ?_
                  refine W.guard true (w := ((!(decide (c58 = c60))) == false)) (by kernel_rfl) (congrArg (fun b => b == false) (congrArg (fun b => !b) (decide_eq_true h62))) ?_
                  obtain ⟨c65, hc66, H⟩ := H
                  refine W.callR (g := 61) (ds := [(.agg [(.bool c4_0), (.ints .u64 c4_1), (.ints .u64 c4_2)]), (.agg [(.bool c6_0), (.ints .u64 c6_1), (.ints .u64 c6_2)])]) (es := [(.agg [(.bool c4_0), (.ints .u64 c4_1), (.ints .u64 c4_2)]), (.agg [(.bool c6_0), (.ints .u64 c6_1), (.ints .u64 c6_2)])]) (r := (.bool c65)) (by kernel_rfl) (by kernel_rfl) (Ic.args hc66 (by kernel_rfl)) (by kernel_rfl) ?_
                  refine W.guard true (w := ((!(decide (c58 = c60))) == false)) (by kernel_rfl) (congrArg (fun b => b == false) (congrArg (fun b => !b) (decide_eq_true h62))) ?_
                  refine W.adv 1 ?_
                  refine W.opS (OpIs.pk false (t := (!(decide (c58 = c60)))) (x := (.bool true)) (y := (.bool (!((decide (c63 = 0)) == c65)))) (by kernel_rfl) (congrArg (fun b => !b) (decide_eq_true h62))) ?_
                  refine W.adv 2 ?_
                  rcases H with ⟨h67, H⟩ | ⟨h67, H⟩
                  · rcases H with ⟨h68, H⟩ | ⟨h68, H⟩
                    · refine W.cond false (w := (!((decide (c63 = 0)) == c65))) (by kernel_rfl) (congrArg (fun b => !b) (congr (congrArg (fun x y => x == y) (decide_eq_true h67)) h68)) ?_
                      refine W.adv 6 ?_
                      obtain ⟨c69t0_0, c69t0_1, c69t0_2, c69t1, hc70, H⟩ := H
                      refine W.callR (g := 44) (ds := [(.agg [(.bool c12_0), (.ints .u64 c12_1), (.ints .u64 c12_2)]), (.agg [(.bool c6_0), (.ints .u64 c6_1), (.ints .u64 c6_2)])]) (es := [(.agg [(.bool c12_0), (.ints .u64 c12_1), (.ints .u64 c12_2)]), (.agg [(.bool c6_0), (.ints .u64 c6_1), (.ints .u64 c6_2)])]) (r := (.tuple [(.agg [(.bool c69t0_0), (.ints .u64 c69t0_1), (.ints .u64 c69t0_2)]), (.int .i64 c69t1)])) (by kernel_rfl) (by kernel_rfl) (Ic.args hc70 (by kernel_rfl)) (by kernel_rfl) ?_
                      refine W.adv 15 ?_
                      rcases H with ⟨h71, H⟩ | ⟨h71, H⟩
                      · refine W.cond false (w := (!(decide (c69t1 = 0)))) (by kernel_rfl) (congrArg (fun b => !b) (decide_eq_true h71)) ?_
                        refine W.adv 6 ?_
                        obtain ⟨c72, hc73, H⟩ := H
                        refine W.callR (g := 61) (ds := [(.agg [(.bool c69t0_0), (.ints .u64 c69t0_1), (.ints .u64 c69t0_2)]), (.agg [(.bool c4_0), (.ints .u64 c4_1), (.ints .u64 c4_2)])]) (es := [(.agg [(.bool c69t0_0), (.ints .u64 c69t0_1), (.ints .u64 c69t0_2)]), (.agg [(.bool c4_0), (.ints .u64 c4_1), (.ints .u64 c4_2)])]) (r := (.bool c72)) (by kernel_rfl) (by kernel_rfl) (Ic.args hc73 (by kernel_rfl)) (by kernel_rfl) ?_
                        refine W.adv 1 ?_
                        rcases H with ⟨h74, H⟩ | ⟨h74, H⟩
                        · refine W.guard true (w := (c72 == true)) (by kernel_rfl) (congrArg (fun b => b == true) h74) ?_
                          refine W.adv 1 ?_
                          refine W.guard true (w := (c72 == true)) (by kernel_rfl) (congrArg (fun b => b == true) h74) ?_
                          obtain ⟨c75, hc76, H⟩ := H
                          refine W.callR (g := 40) (ds := [(.agg [(.bool c69t0_0), (.ints .u64 c69t0_1), (.ints .u64 c69t0_2)])]) (es := [(.agg [(.bool c69t0_0), (.ints .u64 c69t0_1), (.ints .u64 c69t0_2)])]) (r := (.bool c75)) (by kernel_rfl) (by kernel_rfl) (Ic.args hc76 (by kernel_rfl)) (by kernel_rfl) ?_
                          refine W.opS (OpIs.pk true (t := c72) (x := (.bool c75)) (y := (.bool false)) (by kernel_rfl) h74) ?_
                          refine W.adv 4 ?_
                          exact W.fin (x := .ret) (by kernel_rfl) (LAns.of (d := (.bool c75)) (by kernel_rfl) (by rw [H]))
                        · refine W.guard false (w := (c72 == true)) (by kernel_rfl) (congrArg (fun b => b == true) (bfalse h74)) ?_
                          refine W.guard false (w := (c72 == true)) (by kernel_rfl) (congrArg (fun b => b == true) (bfalse h74)) ?_
                          refine W.opS (OpIs.pk false (t := c72) (x := (.tuple [])) (y := (.bool false)) (by kernel_rfl) (bfalse h74)) ?_
                          refine W.adv 4 ?_
                          exact W.fin (x := .ret) (by kernel_rfl) (LAns.of (d := (.bool false)) (by kernel_rfl) (by rw [H]))
                      · refine W.cond true (w := (!(decide (c69t1 = 0)))) (by kernel_rfl) (congrArg (fun b => !b) (decide_eq_false h71)) ?_
                        refine W.adv 3 ?_
                        obtain ⟨c77, hc78, H⟩ := H
                        refine W.callR (g := 59) (ds := [(.agg [(.bool c6_0), (.ints .u64 c6_1), (.ints .u64 c6_2)])]) (es := [(.agg [(.bool c6_0), (.ints .u64 c6_1), (.ints .u64 c6_2)])]) (r := (.int .i64 c77)) (by kernel_rfl) (by kernel_rfl) (Ic.args hc78 (by kernel_rfl)) (by kernel_rfl) ?_
                        refine W.adv 6 ?_
                        exact W.fin (x := .ret) (by kernel_rfl) (LAns.of (d := (.bool (decide (c77 = 0)))) (by kernel_rfl) (by rw [H]))
                    · refine W.cond true (w := (!((decide (c63 = 0)) == c65))) (by kernel_rfl) (congrArg (fun b => !b) (congr (congrArg (fun x y => x == y) (decide_eq_true h67)) (bfalse h68))) ?_
                      refine W.adv 7 ?_
                      exact W.fin (x := .ret) (by kernel_rfl) (LAns.of (d := (.bool false)) (by kernel_rfl) (by rw [H]))
                  · rcases H with ⟨h79, H⟩ | ⟨h79, H⟩
                    · refine W.cond true (w := (!((decide (c63 = 0)) == c65))) (by kernel_rfl) (congrArg (fun b => !b) (congr (congrArg (fun x y => x == y) (decide_eq_false h67)) h79)) ?_
                      refine W.adv 7 ?_
                      exact W.fin (x := .ret) (by kernel_rfl) (LAns.of (d := (.bool false)) (by kernel_rfl) (by rw [H]))
                    · refine W.cond false (w := (!((decide (c63 = 0)) == c65))) (by kernel_rfl) (congrArg (fun b => !b) (congr (congrArg (fun x y => x == y) (decide_eq_false h67)) (bfalse h79))) ?_
                      refine W.adv 6 ?_
                      obtain ⟨c80t0_0, c80t0_1, c80t0_2, c80t1, hc81, H⟩ := H
                      refine W.callR (g := 44) (ds := [(.agg [(.bool c12_0), (.ints .u64 c12_1), (.ints .u64 c12_2)]), (.agg [(.bool c6_0), (.ints .u64 c6_1), (.ints .u64 c6_2)])]) (es := [(.agg [(.bool c12_0), (.ints .u64 c12_1), (.ints .u64 c12_2)]), (.agg [(.bool c6_0), (.ints .u64 c6_1), (.ints .u64 c6_2)])]) (r := (.tuple [(.agg [(.bool c80t0_0), (.ints .u64 c80t0_1), (.ints .u64 c80t0_2)]), (.int .i64 c80t1)])) (by kernel_rfl) (by kernel_rfl) (Ic.args hc81 (by kernel_rfl)) (by kernel_rfl) ?_
                      refine W.adv 15 ?_
                      rcases H with ⟨h82, H⟩ | ⟨h82, H⟩
                      · refine W.cond false (w := (!(decide (c80t1 = 0)))) (by kernel_rfl) (congrArg (fun b => !b) (decide_eq_true h82)) ?_
                        refine W.adv 6 ?_
                        obtain ⟨c83, hc84, H⟩ := H
                        refine W.callR (g := 61) (ds := [(.agg [(.bool c80t0_0), (.ints .u64 c80t0_1), (.ints .u64 c80t0_2)]), (.agg [(.bool c4_0), (.ints .u64 c4_1), (.ints .u64 c4_2)])]) (es := [(.agg [(.bool c80t0_0), (.ints .u64 c80t0_1), (.ints .u64 c80t0_2)]), (.agg [(.bool c4_0), (.ints .u64 c4_1), (.ints .u64 c4_2)])]) (r := (.bool c83)) (by kernel_rfl) (by kernel_rfl) (Ic.args hc84 (by kernel_rfl)) (by kernel_rfl) ?_
                        refine W.adv 1 ?_
                        rcases H with ⟨h85, H⟩ | ⟨h85, H⟩
                        · refine W.guard true (w := (c83 == true)) (by kernel_rfl) (congrArg (fun b => b == true) h85) ?_
                          refine W.adv 1 ?_
                          refine W.guard true (w := (c83 == true)) (by kernel_rfl) (congrArg (fun b => b == true) h85) ?_
                          obtain ⟨c86, hc87, H⟩ := H
                          refine W.callR (g := 40) (ds := [(.agg [(.bool c80t0_0), (.ints .u64 c80t0_1), (.ints .u64 c80t0_2)])]) (es := [(.agg [(.bool c80t0_0), (.ints .u64 c80t0_1), (.ints .u64 c80t0_2)])]) (r := (.bool c86)) (by kernel_rfl) (by kernel_rfl) (Ic.args hc87 (by kernel_rfl)) (by kernel_rfl) ?_
                          refine W.opS (OpIs.pk true (t := c83) (x := (.bool c86)) (y := (.bool false)) (by kernel_rfl) h85) ?_
                          refine W.adv 4 ?_
                          exact W.fin (x := .ret) (by kernel_rfl) (LAns.of (d := (.bool c86)) (by kernel_rfl) (by rw [H]))
                        · refine W.guard false (w := (c83 == true)) (by kernel_rfl) (congrArg (fun b => b == true) (bfalse h85)) ?_
                          refine W.guard false (w := (c83 == true)) (by kernel_rfl) (congrArg (fun b => b == true) (bfalse h85)) ?_
                          refine W.opS (OpIs.pk false (t := c83) (x := (.tuple [])) (y := (.bool false)) (by kernel_rfl) (bfalse h85)) ?_
                          refine W.adv 4 ?_
                          exact W.fin (x := .ret) (by kernel_rfl) (LAns.of (d := (.bool false)) (by kernel_rfl) (by rw [H]))
                      · refine W.cond true (w := (!(decide (c80t1 = 0)))) (by kernel_rfl) (congrArg (fun b => !b) (decide_eq_false h82)) ?_
                        refine W.adv 3 ?_
                        obtain ⟨c88, hc89, H⟩ := H
                        refine W.callR (g := 59) (ds := [(.agg [(.bool c6_0), (.ints .u64 c6_1), (.ints .u64 c6_2)])]) (es := [(.agg [(.bool c6_0), (.ints .u64 c6_1), (.ints .u64 c6_2)])]) (r := (.int .i64 c88)) (by kernel_rfl) (by kernel_rfl) (Ic.args hc89 (by kernel_rfl)) (by kernel_rfl) ?_
                        refine W.adv 6 ?_
                        exact W.fin (x := .ret) (by kernel_rfl) (LAns.of (d := (.bool (decide (c88 = 0)))) (by kernel_rfl) (by rw [H]))
                · refine W.guard false (w := ((!(decide (c58 = c60))) == false)) (by kernel_rfl) (congrArg (fun b => b == false) (congrArg (fun b => !b) (decide_eq_false h62))) ?_
                  refine W.guard false (w := ((!(decide (c58 = c60))) == false)) (by kernel_rfl) (congrArg (fun b => b == false) (congrArg (fun b => !b) (decide_eq_false h62))) ?_
                  refine W.guard false (w := ((!(decide (c58 = c60))) == false)) (by kernel_rfl) (congrArg (fun b => b == false) (congrArg (fun b => !b) (decide_eq_false h62))) ?_
                  refine W.guard false (w := ((!(decide (c58 = c60))) == false)) (by kernel_rfl) (congrArg (fun b => b == false) (congrArg (fun b => !b) (decide_eq_false h62))) ?_
                  refine W.guard false (w := ((!(decide (c58 = c60))) == false)) (by kernel_rfl) (congrArg (fun b => b == false) (congrArg (fun b => !b) (decide_eq_false h62))) ?_
                  refine W.guard false (w := ((!(decide (c58 = c60))) == false)) (by kernel_rfl) (congrArg (fun b => b == false) (congrArg (fun b => !b) (decide_eq_false h62))) ?_
                  refine W.guard false (w := ((!(decide (c58 = c60))) == false)) (by kernel_rfl) (congrArg (fun b => b == false) (congrArg (fun b => !b) (decide_eq_false h62))) ?_
                  refine W.guard false (w := ((!(decide (c58 = c60))) == false)) (by kernel_rfl) (congrArg (fun b => b == false) (congrArg (fun b => !b) (decide_eq_false h62))) ?_
                  refine W.opS (OpIs.pk true (t := (!(decide (c58 = c60)))) (x := (.bool true)) (y := (.tuple [])) (by kernel_rfl) (congrArg (fun b => !b) (decide_eq_false h62))) ?_
                  refine W.adv 10 ?_
                  exact W.fin (x := .ret) (by kernel_rfl) (LAns.of (d := (.bool false)) (by kernel_rfl) (by rw [H]))
              · refine W.guard false (w := ((!c51) == false)) (by kernel_rfl) (congrArg (fun b => b == false) (congrArg (fun b => !b) (bfalse h53))) ?_
                refine W.guard false (w := ((!c51) == false)) (by kernel_rfl) (congrArg (fun b => b == false) (congrArg (fun b => !b) (bfalse h53))) ?_
                refine W.guard false (w := ((!c51) == false)) (by kernel_rfl) (congrArg (fun b => b == false) (congrArg (fun b => !b) (bfalse h53))) ?_
                refine W.guard false (w := ((!c51) == false)) (by kernel_rfl) (congrArg (fun b => b == false) (congrArg (fun b => !b) (bfalse h53))) ?_
                refine W.guard false (w := ((!c51) == false)) (by kernel_rfl) (congrArg (fun b => b == false) (congrArg (fun b => !b) (bfalse h53))) ?_
                refine W.guard false (w := ((!c51) == false)) (by kernel_rfl) (congrArg (fun b => b == false) (congrArg (fun b => !b) (bfalse h53))) ?_
                refine W.guard false (w := ((!c51) == false)) (by kernel_rfl) (congrArg (fun b => b == false) (congrArg (fun b => !b) (bfalse h53))) ?_
                refine W.guard false (w := ((!c51) == false)) (by kernel_rfl) (congrArg (fun b => b == false) (congrArg (fun b => !b) (bfalse h53))) ?_
                refine W.guard false (w := ((!c51) == false)) (by kernel_rfl) (congrArg (fun b => b == false) (congrArg (fun b => !b) (bfalse h53))) ?_
                refine W.guard false (w := ((!c51) == false)) (by kernel_rfl) (congrArg (fun b => b == false) (congrArg (fun b => !b) (bfalse h53))) ?_
                refine W.guard false (w := ((!c51) == false)) (by kernel_rfl) (congrArg (fun b => b == false) (congrArg (fun b => !b) (bfalse h53))) ?_
                refine W.opS (OpIs.pk true (t := (!c51)) (x := (.bool true)) (y := (.tuple [])) (by kernel_rfl) (congrArg (fun b => !b) (bfalse h53))) ?_
                refine W.adv 20 ?_
                exact W.fin (x := .ret) (by kernel_rfl) (LAns.of (d := (.bool false)) (by kernel_rfl) (by rw [H]))
            · refine W.guard false (w := ((!c46) == false)) (by kernel_rfl) (congrArg (fun b => b == false) (congrArg (fun b => !b) (bfalse h48))) ?_
              refine W.guard false (w := ((!c46) == false)) (by kernel_rfl) (congrArg (fun b => b == false) (congrArg (fun b => !b) (bfalse h48))) ?_
              refine W.guard false (w := ((!c46) == false)) (by kernel_rfl) (congrArg (fun b => b == false) (congrArg (fun b => !b) (bfalse h48))) ?_
              refine W.guard false (w := ((!c46) == false)) (by kernel_rfl) (congrArg (fun b => b == false) (congrArg (fun b => !b) (bfalse h48))) ?_
              refine W.guard false (w := ((!c46) == false)) (by kernel_rfl) (congrArg (fun b => b == false) (congrArg (fun b => !b) (bfalse h48))) ?_
              refine W.guard false (w := ((!c46) == false)) (by kernel_rfl) (congrArg (fun b => b == false) (congrArg (fun b => !b) (bfalse h48))) ?_
              refine W.opS (OpIs.pk true (t := (!c46)) (x := (.bool true)) (y := (.tuple [])) (by kernel_rfl) (congrArg (fun b => !b) (bfalse h48))) ?_
              refine W.adv 33 ?_
              exact W.fin (x := .ret) (by kernel_rfl) (LAns.of (d := (.bool false)) (by kernel_rfl) (by rw [H]))
          · refine W.cond true (w := (!c35)) (by kernel_rfl) (congrArg (fun b => !b) (bfalse h37)) ?_
            refine W.adv 7 ?_
            exact W.fin (x := .ret) (by kernel_rfl) (LAns.of (d := (.bool false)) (by kernel_rfl) (by rw [H]))
        · refine W.guard false (w := ((!c26) == false)) (by kernel_rfl) (congrArg (fun b => b == false) (congrArg (fun b => !b) (bfalse h28))) ?_
          refine W.guard false (w := ((!c26) == false)) (by kernel_rfl) (congrArg (fun b => b == false) (congrArg (fun b => !b) (bfalse h28))) ?_
          refine W.guard false (w := ((!c26) == false)) (by kernel_rfl) (congrArg (fun b => b == false) (congrArg (fun b => !b) (bfalse h28))) ?_
          refine W.guard false (w := ((!c26) == false)) (by kernel_rfl) (congrArg (fun b => b == false) (congrArg (fun b => !b) (bfalse h28))) ?_
          refine W.guard false (w := ((!c26) == false)) (by kernel_rfl) (congrArg (fun b => b == false) (congrArg (fun b => !b) (bfalse h28))) ?_
          refine W.guard false (w := ((!c26) == false)) (by kernel_rfl) (congrArg (fun b => b == false) (congrArg (fun b => !b) (bfalse h28))) ?_
          refine W.guard false (w := ((!c26) == false)) (by kernel_rfl) (congrArg (fun b => b == false) (congrArg (fun b => !b) (bfalse h28))) ?_
          refine W.guard false (w := ((!c26) == false)) (by kernel_rfl) (congrArg (fun b => b == false) (congrArg (fun b => !b) (bfalse h28))) ?_
          refine W.guard false (w := ((!c26) == false)) (by kernel_rfl) (congrArg (fun b => b == false) (congrArg (fun b => !b) (bfalse h28))) ?_
          refine W.guard false (w := ((!c26) == false)) (by kernel_rfl) (congrArg (fun b => b == false) (congrArg (fun b => !b) (bfalse h28))) ?_
          refine W.opS (OpIs.pk true (t := (!c26)) (x := (.bool true)) (y := (.tuple [])) (by kernel_rfl) (congrArg (fun b => !b) (bfalse h28))) ?_
          refine W.adv 10 ?_
          exact W.fin (x := .ret) (by kernel_rfl) (LAns.of (d := (.bool false)) (by kernel_rfl) (by rw [H]))
      · refine W.guard false (w := ((!c17) == false)) (by kernel_rfl) (congrArg (fun b => b == false) (congrArg (fun b => !b) (bfalse h19))) ?_
        refine W.guard false (w := ((!c17) == false)) (by kernel_rfl) (congrArg (fun b => b == false) (congrArg (fun b => !b) (bfalse h19))) ?_
        refine W.guard false (w := ((!c17) == false)) (by kernel_rfl) (congrArg (fun b => b == false) (congrArg (fun b => !b) (bfalse h19))) ?_
        refine W.guard false (w := ((!c17) == false)) (by kernel_rfl) (congrArg (fun b => b == false) (congrArg (fun b => !b) (bfalse h19))) ?_
        refine W.guard false (w := ((!c17) == false)) (by kernel_rfl) (congrArg (fun b => b == false) (congrArg (fun b => !b) (bfalse h19))) ?_
        refine W.guard false (w := ((!c17) == false)) (by kernel_rfl) (congrArg (fun b => b == false) (congrArg (fun b => !b) (bfalse h19))) ?_
        refine W.guard false (w := ((!c17) == false)) (by kernel_rfl) (congrArg (fun b => b == false) (congrArg (fun b => !b) (bfalse h19))) ?_
        refine W.guard false (w := ((!c17) == false)) (by kernel_rfl) (congrArg (fun b => b == false) (congrArg (fun b => !b) (bfalse h19))) ?_
        refine W.guard false (w := ((!c17) == false)) (by kernel_rfl) (congrArg (fun b => b == false) (congrArg (fun b => !b) (bfalse h19))) ?_
        refine W.guard false (w := ((!c17) == false)) (by kernel_rfl) (congrArg (fun b => b == false) (congrArg (fun b => !b) (bfalse h19))) ?_
        refine W.opS (OpIs.pk true (t := (!c17)) (x := (.bool true)) (y := (.tuple [])) (by kernel_rfl) (congrArg (fun b => !b) (bfalse h19))) ?_
        refine W.adv 22 ?_
        exact W.fin (x := .ret) (by kernel_rfl) (LAns.of (d := (.bool false)) (by kernel_rfl) (by rw [H]))
    · refine W.guard false (w := ((!c14) == false)) (by kernel_rfl) (congrArg (fun b => b == false) (congrArg (fun b => !b) (bfalse h16))) ?_
      refine W.guard false (w := ((!c14) == false)) (by kernel_rfl) (congrArg (fun b => b == false) (congrArg (fun b => !b) (bfalse h16))) ?_
      refine W.guard false (w := ((!c14) == false)) (by kernel_rfl) (congrArg (fun b => b == false) (congrArg (fun b => !b) (bfalse h16))) ?_
      refine W.opS (OpIs.pk true (t := (!c14)) (x := (.bool true)) (y := (.tuple [])) (by kernel_rfl) (congrArg (fun b => !b) (bfalse h16))) ?_
      refine W.adv 34 ?_
      exact W.fin (x := .ret) (by kernel_rfl) (LAns.of (d := (.bool false)) (by kernel_rfl) (by rw [H]))
  · refine W.cond true (w := (!c1)) (by kernel_rfl) (congrArg (fun b => !b) (bfalse h3)) ?_
    refine W.adv 7 ?_
    exact W.fin (x := .ret) (by kernel_rfl) (LAns.of (d := (.bool false)) (by kernel_rfl) (by rw [H]))
end Go.Proofs.YtcmajlphfnihgaaA
