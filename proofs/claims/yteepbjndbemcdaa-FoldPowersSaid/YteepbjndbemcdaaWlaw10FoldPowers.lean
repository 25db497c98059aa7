/- Walks through the functions: what makes each relation true. -/
import Derived.Test.YteepbjndbemcdaaW0
set_option linter.unusedVariables false
set_option maxRecDepth 100000
namespace Go.Proofs.YteepbjndbemcdaaA
open Go Go.Proofs
/-! ### trivium/triviumlaw10.FoldPowers -/
theorem law10_FoldPowers_go {a0_0 : Bool} {a0_1 : List Int} {a0_2 : List Int} {a1 : Int} {z : Bool} (H : (∃ c1_0 : Bool, (∃ c1_1 : List Int, (∃ c1_2 : List Int, (ref08_Clean_R a0_0 a0_1 a0_2 1 c1_0 c1_1 c1_2 ∧ ((12 < a1 ∧ (((-2000) ≤ a1 ∧ ((a1 ≤ 2000 ∧ (∃ c6t0_0 : Bool, (∃ c6t0_1 : List Int, (∃ c6t0_2 : List Int, (∃ c6t1 : Int, (fold_Pow_R c1_0 c1_1 c1_2 (a1.tmod 13) c6t0_0 c6t0_1 c6t0_2 c6t1 ∧ (∃ c8_0 : Bool, (∃ c8_1 : List Int, (∃ c8_2 : List Int, (ref08_Of_R c1_0 c1_1 c1_2 c8_0 c8_1 c8_2 ∧ (∃ c10t0_0 : Bool, (∃ c10t0_1 : List Int, (∃ c10t0_2 : List Int, (∃ c10t1 : Int, (ref10_Pow_R c8_0 c8_1 c8_2 (a1.tmod 13) c10t0_0 c10t0_1 c10t0_2 c10t1 ∧ ((c10t1 = 0 ∧ ((c6t1 = 0 ∧ (∃ c14_0 : Bool, (∃ c14_1 : List Int, (∃ c14_2 : List Int, (ref08_Back_R c10t0_0 c10t0_1 c10t0_2 c14_0 c14_1 c14_2 ∧ (∃ c16 : Bool, (ref08_Same_R c6t0_0 c6t0_1 c6t0_2 c14_0 c14_1 c14_2 c16 ∧ ((c16 = true ∧ (∃ c19 : Bool, (law10_works_R c19 ∧ (z = c19)))) ∨ (¬ c16 = true ∧ (z = false)))))))))) ∨ (¬ c6t1 = 0 ∧ (z = false)))) ∨ (¬ c10t1 = 0 ∧ ((c6t1 = c10t1 ∧ (∃ c22 : Bool, (law10_works_R c22 ∧ (z = c22)))) ∨ (¬ c6t1 = c10t1 ∧ (z = false)))))))))))))))))))) ∨ (¬ a1 ≤ 2000 ∧ (∃ c24t0_0 : Bool, (∃ c24t0_1 : List Int, (∃ c24t0_2 : List Int, (∃ c24t1 : Int, (fold_Pow_R c1_0 c1_1 c1_2 a1 c24t0_0 c24t0_1 c24t0_2 c24t1 ∧ (∃ c26_0 : Bool, (∃ c26_1 : List Int, (∃ c26_2 : List Int, (ref08_Of_R c1_0 c1_1 c1_2 c26_0 c26_1 c26_2 ∧ (∃ c28t0_0 : Bool, (∃ c28t0_1 : List Int, (∃ c28t0_2 : List Int, (∃ c28t1 : Int, (ref10_Pow_R c26_0 c26_1 c26_2 a1 c28t0_0 c28t0_1 c28t0_2 c28t1 ∧ ((c28t1 = 0 ∧ ((c24t1 = 0 ∧ (∃ c32_0 : Bool, (∃ c32_1 : List Int, (∃ c32_2 : List Int, (ref08_Back_R c28t0_0 c28t0_1 c28t0_2 c32_0 c32_1 c32_2 ∧ (∃ c34 : Bool, (ref08_Same_R c24t0_0 c24t0_1 c24t0_2 c32_0 c32_1 c32_2 c34 ∧ ((c34 = true ∧ (∃ c37 : Bool, (law10_works_R c37 ∧ (z = c37)))) ∨ (¬ c34 = true ∧ (z = false)))))))))) ∨ (¬ c24t1 = 0 ∧ (z = false)))) ∨ (¬ c28t1 = 0 ∧ ((c24t1 = c28t1 ∧ (∃ c40 : Bool, (law10_works_R c40 ∧ (z = c40)))) ∨ (¬ c24t1 = c28t1 ∧ (z = false)))))))))))))))))))))) ∨ (¬ (-2000) ≤ a1 ∧ (∃ c42t0_0 : Bool, (∃ c42t0_1 : List Int, (∃ c42t0_2 : List Int, (∃ c42t1 : Int, (fold_Pow_R c1_0 c1_1 c1_2 a1 c42t0_0 c42t0_1 c42t0_2 c42t1 ∧ (∃ c44_0 : Bool, (∃ c44_1 : List Int, (∃ c44_2 : List Int, (ref08_Of_R c1_0 c1_1 c1_2 c44_0 c44_1 c44_2 ∧ (∃ c46t0_0 : Bool, (∃ c46t0_1 : List Int, (∃ c46t0_2 : List Int, (∃ c46t1 : Int, (ref10_Pow_R c44_0 c44_1 c44_2 a1 c46t0_0 c46t0_1 c46t0_2 c46t1 ∧ ((c46t1 = 0 ∧ ((c42t1 = 0 ∧ (∃ c50_0 : Bool, (∃ c50_1 : List Int, (∃ c50_2 : List Int, (ref08_Back_R c46t0_0 c46t0_1 c46t0_2 c50_0 c50_1 c50_2 ∧ (∃ c52 : Bool, (ref08_Same_R c42t0_0 c42t0_1 c42t0_2 c50_0 c50_1 c50_2 c52 ∧ ((c52 = true ∧ (∃ c55 : Bool, (law10_works_R c55 ∧ (z = c55)))) ∨ (¬ c52 = true ∧ (z = false)))))))))) ∨ (¬ c42t1 = 0 ∧ (z = false)))) ∨ (¬ c46t1 = 0 ∧ ((c42t1 = c46t1 ∧ (∃ c58 : Bool, (law10_works_R c58 ∧ (z = c58)))) ∨ (¬ c42t1 = c46t1 ∧ (z = false)))))))))))))))))))))) ∨ (¬ 12 < a1 ∧ ((a1 < (-12) ∧ (((-2000) ≤ a1 ∧ ((a1 ≤ 2000 ∧ (∃ c63t0_0 : Bool, (∃ c63t0_1 : List Int, (∃ c63t0_2 : List Int, (∃ c63t1 : Int, (fold_Pow_R c1_0 c1_1 c1_2 (a1.tmod 13) c63t0_0 c63t0_1 c63t0_2 c63t1 ∧ (∃ c65_0 : Bool, (∃ c65_1 : List Int, (∃ c65_2 : List Int, (ref08_Of_R c1_0 c1_1 c1_2 c65_0 c65_1 c65_2 ∧ (∃ c67t0_0 : Bool, (∃ c67t0_1 : List Int, (∃ c67t0_2 : List Int, (∃ c67t1 : Int, (ref10_Pow_R c65_0 c65_1 c65_2 (a1.tmod 13) c67t0_0 c67t0_1 c67t0_2 c67t1 ∧ ((c67t1 = 0 ∧ ((c63t1 = 0 ∧ (∃ c71_0 : Bool, (∃ c71_1 : List Int, (∃ c71_2 : List Int, (ref08_Back_R c67t0_0 c67t0_1 c67t0_2 c71_0 c71_1 c71_2 ∧ (∃ c73 : Bool, (ref08_Same_R c63t0_0 c63t0_1 c63t0_2 c71_0 c71_1 c71_2 c73 ∧ ((c73 = true ∧ (∃ c76 : Bool, (law10_works_R c76 ∧ (z = c76)))) ∨ (¬ c73 = true ∧ (z = false)))))))))) ∨ (¬ c63t1 = 0 ∧ (z = false)))) ∨ (¬ c67t1 = 0 ∧ ((c63t1 = c67t1 ∧ (∃ c79 : Bool, (law10_works_R c79 ∧ (z = c79)))) ∨ (¬ c63t1 = c67t1 ∧ (z = false)))))))))))))))))))) ∨ (¬ a1 ≤ 2000 ∧ (∃ c81t0_0 : Bool, (∃ c81t0_1 : List Int, (∃ c81t0_2 : List Int, (∃ c81t1 : Int, (fold_Pow_R c1_0 c1_1 c1_2 a1 c81t0_0 c81t0_1 c81t0_2 c81t1 ∧ (∃ c83_0 : Bool, (∃ c83_1 : List Int, (∃ c83_2 : List Int, (ref08_Of_R c1_0 c1_1 c1_2 c83_0 c83_1 c83_2 ∧ (∃ c85t0_0 : Bool, (∃ c85t0_1 : List Int, (∃ c85t0_2 : List Int, (∃ c85t1 : Int, (ref10_Pow_R c83_0 c83_1 c83_2 a1 c85t0_0 c85t0_1 c85t0_2 c85t1 ∧ ((c85t1 = 0 ∧ ((c81t1 = 0 ∧ (∃ c89_0 : Bool, (∃ c89_1 : List Int, (∃ c89_2 : List Int, (ref08_Back_R c85t0_0 c85t0_1 c85t0_2 c89_0 c89_1 c89_2 ∧ (∃ c91 : Bool, (ref08_Same_R c81t0_0 c81t0_1 c81t0_2 c89_0 c89_1 c89_2 c91 ∧ ((c91 = true ∧ (∃ c94 : Bool, (law10_works_R c94 ∧ (z = c94)))) ∨ (¬ c91 = true ∧ (z = false)))))))))) ∨ (¬ c81t1 = 0 ∧ (z = false)))) ∨ (¬ c85t1 = 0 ∧ ((c81t1 = c85t1 ∧ (∃ c97 : Bool, (law10_works_R c97 ∧ (z = c97)))) ∨ (¬ c81t1 = c85t1 ∧ (z = false)))))))))))))))))))))) ∨ (¬ (-2000) ≤ a1 ∧ (∃ c99t0_0 : Bool, (∃ c99t0_1 : List Int, (∃ c99t0_2 : List Int, (∃ c99t1 : Int, (fold_Pow_R c1_0 c1_1 c1_2 a1 c99t0_0 c99t0_1 c99t0_2 c99t1 ∧ (∃ c101_0 : Bool, (∃ c101_1 : List Int, (∃ c101_2 : List Int, (ref08_Of_R c1_0 c1_1 c1_2 c101_0 c101_1 c101_2 ∧ (∃ c103t0_0 : Bool, (∃ c103t0_1 : List Int, (∃ c103t0_2 : List Int, (∃ c103t1 : Int, (ref10_Pow_R c101_0 c101_1 c101_2 a1 c103t0_0 c103t0_1 c103t0_2 c103t1 ∧ ((c103t1 = 0 ∧ ((c99t1 = 0 ∧ (∃ c107_0 : Bool, (∃ c107_1 : List Int, (∃ c107_2 : List Int, (ref08_Back_R c103t0_0 c103t0_1 c103t0_2 c107_0 c107_1 c107_2 ∧ (∃ c109 : Bool, (ref08_Same_R c99t0_0 c99t0_1 c99t0_2 c107_0 c107_1 c107_2 c109 ∧ ((c109 = true ∧ (∃ c112 : Bool, (law10_works_R c112 ∧ (z = c112)))) ∨ (¬ c109 = true ∧ (z = false)))))))))) ∨ (¬ c99t1 = 0 ∧ (z = false)))) ∨ (¬ c103t1 = 0 ∧ ((c99t1 = c103t1 ∧ (∃ c115 : Bool, (law10_works_R c115 ∧ (z = c115)))) ∨ (¬ c99t1 = c103t1 ∧ (z = false)))))))))))))))))))))) ∨ (¬ a1 < (-12) ∧ (∃ c117t0_0 : Bool, (∃ c117t0_1 : List Int, (∃ c117t0_2 : List Int, (∃ c117t1 : Int, (fold_Pow_R c1_0 c1_1 c1_2 a1 c117t0_0 c117t0_1 c117t0_2 c117t1 ∧ (∃ c119_0 : Bool, (∃ c119_1 : List Int, (∃ c119_2 : List Int, (ref08_Of_R c1_0 c1_1 c1_2 c119_0 c119_1 c119_2 ∧ (∃ c121t0_0 : Bool, (∃ c121t0_1 : List Int, (∃ c121t0_2 : List Int, (∃ c121t1 : Int, (ref10_Pow_R c119_0 c119_1 c119_2 a1 c121t0_0 c121t0_1 c121t0_2 c121t1 ∧ ((c121t1 = 0 ∧ ((c117t1 = 0 ∧ (∃ c125_0 : Bool, (∃ c125_1 : List Int, (∃ c125_2 : List Int, (ref08_Back_R c121t0_0 c121t0_1 c121t0_2 c125_0 c125_1 c125_2 ∧ (∃ c127 : Bool, (ref08_Same_R c117t0_0 c117t0_1 c117t0_2 c125_0 c125_1 c125_2 c127 ∧ ((c127 = true ∧ (∃ c130 : Bool, (law10_works_R c130 ∧ (z = c130)))) ∨ (¬ c127 = true ∧ (z = false)))))))))) ∨ (¬ c117t1 = 0 ∧ (z = false)))) ∨ (¬ c121t1 = 0 ∧ ((c117t1 = c121t1 ∧ (∃ c133 : Bool, (law10_works_R c133 ∧ (z = c133)))) ∨ (¬ c117t1 = c121t1 ∧ (z = false)))))))))))))))))))))))))))) : law10_FoldPowers_R a0_0 a0_1 a0_2 a1 z := by
  refine W.lawIs (zs := [(.agg [(.bool a0_0), (.ints .u64 a0_1), (.ints .u64 a0_2)]), (.int .i64 a1)]) Try.func6 (by kernel_rfl) (by kernel_rfl) (by kernel_rfl) ?_
  refine W.adv 9 ?_
  obtain ⟨c1_0, c1_1, c1_2, hc2, H⟩ := H
  refine W.callR (g := 32) (ds := [(.agg [(.bool a0_0), (.ints .u64 a0_1), (.ints .u64 a0_2)]), (.int .i64 1)]) (es := [(.agg [(.bool a0_0), (.ints .u64 a0_1), (.ints .u64 a0_2)]), (.int .i64 1)]) (r := (.agg [(.bool c1_0), (.ints .u64 c1_1), (.ints .u64 c1_2)])) (by kernel_rfl) (by kernel_rfl) (Ic.args hc2 (by kernel_rfl)) (by kernel_rfl) ?_
  refine W.adv 9 ?_
  rcases H with ⟨h3, H⟩ | ⟨h3, H⟩
  · refine W.guard false (w := ((decide (12 < a1)) == false)) (by kernel_rfl) (congrArg (fun b => b == false) (decide_eq_true h3)) ?_
    refine W.guard false (w := ((decide (12 < a1)) == false)) (by kernel_rfl) (congrArg (fun b => b == false) (decide_eq_true h3)) ?_
    refine W.opS (OpIs.pk true (t := (decide (12 < a1))) (x := (.bool true)) (y := (.tuple [])) (by kernel_rfl) (decide_eq_true h3)) ?_
    refine W.adv 7 ?_
    rcases H with ⟨h4, H⟩ | ⟨h4, H⟩
    · refine W.guard true (w := ((decide ((-2000) ≤ a1)) == true)) (by kernel_rfl) (congrArg (fun b => b == true) (decide_eq_true h4)) ?_
      refine W.adv 1 ?_
      refine W.guard true (w := ((decide ((-2000) ≤ a1)) == true)) (by kernel_rfl) (congrArg (fun b => b == true) (decide_eq_true h4)) ?_
      refine W.adv 1 ?_
      refine W.opS (OpIs.pk true (t := (decide ((-2000) ≤ a1))) (x := (.bool (decide (a1 ≤ 2000)))) (y := (.bool false)) (by kernel_rfl) (decide_eq_true h4)) ?_
      refine W.adv 2 ?_
      rcases H with ⟨h5, H⟩ | ⟨h5, H⟩
      · refine W.cond true (w := (decide (a1 ≤ 2000))) (by kernel_rfl) (decide_eq_true h5) ?_
        refine W.adv 10 ?_
        obtain ⟨c6t0_0, c6t0_1, c6t0_2, c6t1, hc7, H⟩ := H
        refine W.callR (g := 33) (ds := [(.agg [(.bool c1_0), (.ints .u64 c1_1), (.ints .u64 c1_2)]), (.int .i64 (a1.tmod 13))]) (es := [(.agg [(.bool c1_0), (.ints .u64 c1_1), (.ints .u64 c1_2)]), (.int .i64 (a1.tmod 13))]) (r := (.tuple [(.agg [(.bool c6t0_0), (.ints .u64 c6t0_1), (.ints .u64 c6t0_2)]), (.int .i64 c6t1)])) (by kernel_rfl) (by kernel_rfl) (Ic.args hc7 (by kernel_rfl)) (by kernel_rfl) ?_
        refine W.adv 11 ?_
        obtain ⟨c8_0, c8_1, c8_2, hc9, H⟩ := H
        refine W.callR (g := 35) (ds := [(.agg [(.bool c1_0), (.ints .u64 c1_1), (.ints .u64 c1_2)])]) (es := [(.agg [(.bool c1_0), (.ints .u64 c1_1), (.ints .u64 c1_2)])]) (r := (.agg [(.bool c8_0), (.ints .i64 c8_1), (.ints .i64 c8_2)])) (by kernel_rfl) (by kernel_rfl) (Ic.args hc9 (by kernel_rfl)) (by kernel_rfl) ?_
        refine W.adv 1 ?_
        obtain ⟨c10t0_0, c10t0_1, c10t0_2, c10t1, hc11, H⟩ := H
        refine W.callR (g := 34) (ds := [(.agg [(.bool c8_0), (.ints .i64 c8_1), (.ints .i64 c8_2)]), (.int .i64 (a1.tmod 13))]) (es := [(.agg [(.bool c8_0), (.ints .i64 c8_1), (.ints .i64 c8_2)]), (.int .i64 (a1.tmod 13))]) (r := (.tuple [(.agg [(.bool c10t0_0), (.ints .i64 c10t0_1), (.ints .i64 c10t0_2)]), (.int .i64 c10t1)])) (by kernel_rfl) (by kernel_rfl) (Ic.args hc11 (by kernel_rfl)) (by kernel_rfl) ?_
        refine W.adv 15 ?_
        rcases H with ⟨h12, H⟩ | ⟨h12, H⟩
        · refine W.cond false (w := (!(decide (c10t1 = 0)))) (by kernel_rfl) (congrArg (fun b => !b) (decide_eq_true h12)) ?_
          refine W.adv 7 ?_
          rcases H with ⟨h13, H⟩ | ⟨h13, H⟩
          · refine W.guard true (w := ((decide (c6t1 = 0)) == true)) (by kernel_rfl) (congrArg (fun b => b == true) (decide_eq_true h13)) ?_
            refine W.adv 1 ?_
            refine W.guard true (w := ((decide (c6t1 = 0)) == true)) (by kernel_rfl) (congrArg (fun b => b == true) (decide_eq_true h13)) ?_
            refine W.adv 1 ?_
            refine W.guard true (w := ((decide (c6t1 = 0)) == true)) (by kernel_rfl) (congrArg (fun b => b == true) (decide_eq_true h13)) ?_
            obtain ⟨c14_0, c14_1, c14_2, hc15, H⟩ := H
            refine W.callR (g := 23) (ds := [(.agg [(.bool c10t0_0), (.ints .i64 c10t0_1), (.ints .i64 c10t0_2)])]) (es := [(.agg [(.bool c10t0_0), (.ints .i64 c10t0_1), (.ints .i64 c10t0_2)])]) (r := (.agg [(.bool c14_0), (.ints .u64 c14_1), (.ints .u64 c14_2)])) (by kernel_rfl) (by kernel_rfl) (Ic.args hc15 (by kernel_rfl)) (by kernel_rfl) ?_
            refine W.guard true (w := ((decide (c6t1 = 0)) == true)) (by kernel_rfl) (congrArg (fun b => b == true) (decide_eq_true h13)) ?_
            obtain ⟨c16, hc17, H⟩ := H
            refine W.callR (g := 22) (ds := [(.agg [(.bool c6t0_0), (.ints .u64 c6t0_1), (.ints .u64 c6t0_2)]), (.agg [(.bool c14_0), (.ints .u64 c14_1), (.ints .u64 c14_2)])]) (es := [(.agg [(.bool c6t0_0), (.ints .u64 c6t0_1), (.ints .u64 c6t0_2)]), (.agg [(.bool c14_0), (.ints .u64 c14_1), (.ints .u64 c14_2)])]) (r := (.bool c16)) (by kernel_rfl) (by kernel_rfl) (Ic.args hc17 (by kernel_rfl)) (by kernel_rfl) ?_
            refine W.opS (OpIs.pk true (t := (decide (c6t1 = 0))) (x := (.bool c16)) (y := (.bool false)) (by kernel_rfl) (decide_eq_true h13)) ?_
            refine W.adv 1 ?_
            rcases H with ⟨h18, H⟩ | ⟨h18, H⟩
            · refine W.guard true (w := (c16 == true)) (by kernel_rfl) (congrArg (fun b => b == true) h18) ?_
              obtain ⟨c19, hc20, H⟩ := H
              refine W.callR (g := 25) (ds := []) (es := []) (r := (.bool c19)) (by kernel_rfl) (by kernel_rfl) (Ic.args hc20 (by kernel_rfl)) (by kernel_rfl) ?_
              refine W.opS (OpIs.pk true (t := c16) (x := (.bool c19)) (y := (.bool false)) (by kernel_rfl) h18) ?_
              refine W.adv 4 ?_
              exact W.fin (x := .ret) (by kernel_rfl) (LAns.of (d := (.bool c19)) (by kernel_rfl) (by rw [H]))
            · refine W.guard false (w := (c16 == true)) (by kernel_rfl) (congrArg (fun b => b == true) (bfalse h18)) ?_
              refine W.opS (OpIs.pk false (t := c16) (x := (.tuple [])) (y := (.bool false)) (by kernel_rfl) (bfalse h18)) ?_
              refine W.adv 4 ?_
              exact W.fin (x := .ret) (by kernel_rfl) (LAns.of (d := (.bool false)) (by kernel_rfl) (by rw [H]))
          · refine W.guard false (w := ((decide (c6t1 = 0)) == true)) (by kernel_rfl) (congrArg (fun b => b == true) (decide_eq_false h13)) ?_
            refine W.guard false (w := ((decide (c6t1 = 0)) == true)) (by kernel_rfl) (congrArg (fun b => b == true) (decide_eq_false h13)) ?_
            refine W.guard false (w := ((decide (c6t1 = 0)) == true)) (by kernel_rfl) (congrArg (fun b => b == true) (decide_eq_false h13)) ?_
            refine W.guard false (w := ((decide (c6t1 = 0)) == true)) (by kernel_rfl) (congrArg (fun b => b == true) (decide_eq_false h13)) ?_
            refine W.opS (OpIs.pk false (t := (decide (c6t1 = 0))) (x := (.tuple [])) (y := (.bool false)) (by kernel_rfl) (decide_eq_false h13)) ?_
            refine W.adv 7 ?_
            exact W.fin (x := .ret) (by kernel_rfl) (LAns.of (d := (.bool false)) (by kernel_rfl) (by rw [H]))
        · refine W.cond true (w := (!(decide (c10t1 = 0)))) (by kernel_rfl) (congrArg (fun b => !b) (decide_eq_false h12)) ?_
          refine W.adv 6 ?_
          rcases H with ⟨h21, H⟩ | ⟨h21, H⟩
          · refine W.guard true (w := ((decide (c6t1 = c10t1)) == true)) (by kernel_rfl) (congrArg (fun b => b == true) (decide_eq_true h21)) ?_
            obtain ⟨c22, hc23, H⟩ := H
            refine W.callR (g := 25) (ds := []) (es := []) (r := (.bool c22)) (by kernel_rfl) (by kernel_rfl) (Ic.args hc23 (by kernel_rfl)) (by kernel_rfl) ?_
            refine W.opS (OpIs.pk true (t := (decide (c6t1 = c10t1))) (x := (.bool c22)) (y := (.bool false)) (by kernel_rfl) (decide_eq_true h21)) ?_
            refine W.adv 5 ?_
            exact W.fin (x := .ret) (by kernel_rfl) (LAns.of (d := (.bool c22)) (by kernel_rfl) (by rw [H]))
          · refine W.guard false (w := ((decide (c6t1 = c10t1)) == true)) (by kernel_rfl) (congrArg (fun b => b == true) (decide_eq_false h21)) ?_
            refine W.opS (OpIs.pk false (t := (decide (c6t1 = c10t1))) (x := (.tuple [])) (y := (.bool false)) (by kernel_rfl) (decide_eq_false h21)) ?_
            refine W.adv 5 ?_
            exact W.fin (x := .ret) (by kernel_rfl) (LAns.of (d := (.bool false)) (by kernel_rfl) (by rw [H]))
      · refine W.cond false (w := (decide (a1 ≤ 2000))) (by kernel_rfl) (decide_eq_false h5) ?_
        refine W.adv 6 ?_
        obtain ⟨c24t0_0, c24t0_1, c24t0_2, c24t1, hc25, H⟩ := H
        refine W.callR (g := 33) (ds := [(.agg [(.bool c1_0), (.ints .u64 c1_1), (.ints .u64 c1_2)]), (.int .i64 a1)]) (es := [(.agg [(.bool c1_0), (.ints .u64 c1_1), (.ints .u64 c1_2)]), (.int .i64 a1)]) (r := (.tuple [(.agg [(.bool c24t0_0), (.ints .u64 c24t0_1), (.ints .u64 c24t0_2)]), (.int .i64 c24t1)])) (by kernel_rfl) (by kernel_rfl) (Ic.args hc25 (by kernel_rfl)) (by kernel_rfl) ?_
        refine W.adv 11 ?_
        obtain ⟨c26_0, c26_1, c26_2, hc27, H⟩ := H
        refine W.callR (g := 35) (ds := [(.agg [(.bool c1_0), (.ints .u64 c1_1), (.ints .u64 c1_2)])]) (es := [(.agg [(.bool c1_0), (.ints .u64 c1_1), (.ints .u64 c1_2)])]) (r := (.agg [(.bool c26_0), (.ints .i64 c26_1), (.ints .i64 c26_2)])) (by kernel_rfl) (by kernel_rfl) (Ic.args hc27 (by kernel_rfl)) (by kernel_rfl) ?_
        refine W.adv 1 ?_
        obtain ⟨c28t0_0, c28t0_1, c28t0_2, c28t1, hc29, H⟩ := H
        refine W.callR (g := 34) (ds := [(.agg [(.bool c26_0), (.ints .i64 c26_1), (.ints .i64 c26_2)]), (.int .i64 a1)]) (es := [(.agg [(.bool c26_0), (.ints .i64 c26_1), (.ints .i64 c26_2)]), (.int .i64 a1)]) (r := (.tuple [(.agg [(.bool c28t0_0), (.ints .i64 c28t0_1), (.ints .i64 c28t0_2)]), (.int .i64 c28t1)])) (by kernel_rfl) (by kernel_rfl) (Ic.args hc29 (by kernel_rfl)) (by kernel_rfl) ?_
        refine W.adv 15 ?_
        rcases H with ⟨h30, H⟩ | ⟨h30, H⟩
        · refine W.cond false (w := (!(decide (c28t1 = 0)))) (by kernel_rfl) (congrArg (fun b => !b) (decide_eq_true h30)) ?_
          refine W.adv 7 ?_
          rcases H with ⟨h31, H⟩ | ⟨h31, H⟩
          · refine W.guard true (w := ((decide (c24t1 = 0)) == true)) (by kernel_rfl) (congrArg (fun b => b == true) (decide_eq_true h31)) ?_
            refine W.adv 1 ?_
            refine W.guard true (w := ((decide (c24t1 = 0)) == true)) (by kernel_rfl) (congrArg (fun b => b == true) (decide_eq_true h31)) ?_
            refine W.adv 1 ?_
            refine W.guard true (w := ((decide (c24t1 = 0)) == true)) (by kernel_rfl) (congrArg (fun b => b == true) (decide_eq_true h31)) ?_
            obtain ⟨c32_0, c32_1, c32_2, hc33, H⟩ := H
            refine W.callR (g := 23) (ds := [(.agg [(.bool c28t0_0), (.ints .i64 c28t0_1), (.ints .i64 c28t0_2)])]) (es := [(.agg [(.bool c28t0_0), (.ints .i64 c28t0_1), (.ints .i64 c28t0_2)])]) (r := (.agg [(.bool c32_0), (.ints .u64 c32_1), (.ints .u64 c32_2)])) (by kernel_rfl) (by kernel_rfl) (Ic.args hc33 (by kernel_rfl)) (by kernel_rfl) ?_
            refine W.guard true (w := ((decide (c24t1 = 0)) == true)) (by kernel_rfl) (congrArg (fun b => b == true) (decide_eq_true h31)) ?_
            obtain ⟨c34, hc35, H⟩ := H
            refine W.callR (g := 22) (ds := [(.agg [(.bool c24t0_0), (.ints .u64 c24t0_1), (.ints .u64 c24t0_2)]), (.agg [(.bool c32_0), (.ints .u64 c32_1), (.ints .u64 c32_2)])]) (es := [(.agg [(.bool c24t0_0), (.ints .u64 c24t0_1), (.ints .u64 c24t0_2)]), (.agg [(.bool c32_0), (.ints .u64 c32_1), (.ints .u64 c32_2)])]) (r := (.bool c34)) (by kernel_rfl) (by kernel_rfl) (Ic.args hc35 (by kernel_rfl)) (by kernel_rfl) ?_
            refine W.opS (OpIs.pk true (t := (decide (c24t1 = 0))) (x := (.bool c34)) (y := (.bool false)) (by kernel_rfl) (decide_eq_true h31)) ?_
            refine W.adv 1 ?_
            rcases H with ⟨h36, H⟩ | ⟨h36, H⟩
            · refine W.guard true (w := (c34 == true)) (by kernel_rfl) (congrArg (fun b => b == true) h36) ?_
              obtain ⟨c37, hc38, H⟩ := H
              refine W.callR (g := 25) (ds := []) (es := []) (r := (.bool c37)) (by kernel_rfl) (by kernel_rfl) (Ic.args hc38 (by kernel_rfl)) (by kernel_rfl) ?_
              refine W.opS (OpIs.pk true (t := c34) (x := (.bool c37)) (y := (.bool false)) (by kernel_rfl) h36) ?_
              refine W.adv 4 ?_
              exact W.fin (x := .ret) (by kernel_rfl) (LAns.of (d := (.bool c37)) (by kernel_rfl) (by rw [H]))
            · refine W.guard false (w := (c34 == true)) (by kernel_rfl) (congrArg (fun b => b == true) (bfalse h36)) ?_
              refine W.opS (OpIs.pk false (t := c34) (x := (.tuple [])) (y := (.bool false)) (by kernel_rfl) (bfalse h36)) ?_
              refine W.adv 4 ?_
              exact W.fin (x := .ret) (by kernel_rfl) (LAns.of (d := (.bool false)) (by kernel_rfl) (by rw [H]))
          · refine W.guard false (w := ((decide (c24t1 = 0)) == true)) (by kernel_rfl) (congrArg (fun b => b == true) (decide_eq_false h31)) ?_
            refine W.guard false (w := ((decide (c24t1 = 0)) == true)) (by kernel_rfl) (congrArg (fun b => b == true) (decide_eq_false h31)) ?_
            refine W.guard false (w := ((decide (c24t1 = 0)) == true)) (by kernel_rfl) (congrArg (fun b => b == true) (decide_eq_false h31)) ?_
            refine W.guard false (w := ((decide (c24t1 = 0)) == true)) (by kernel_rfl) (congrArg (fun b => b == true) (decide_eq_false h31)) ?_
            refine W.opS (OpIs.pk false (t := (decide (c24t1 = 0))) (x := (.tuple [])) (y := (.bool false)) (by kernel_rfl) (decide_eq_false h31)) ?_
            refine W.adv 7 ?_
            exact W.fin (x := .ret) (by kernel_rfl) (LAns.of (d := (.bool false)) (by kernel_rfl) (by rw [H]))
        · refine W.cond true (w := (!(decide (c28t1 = 0)))) (by kernel_rfl) (congrArg (fun b => !b) (decide_eq_false h30)) ?_
          refine W.adv 6 ?_
          rcases H with ⟨h39, H⟩ | ⟨h39, H⟩
          · refine W.guard true (w := ((decide (c24t1 = c28t1)) == true)) (by kernel_rfl) (congrArg (fun b => b == true) (decide_eq_true h39)) ?_
            obtain ⟨c40, hc41, H⟩ := H
            refine W.callR (g := 25) (ds := []) (es := []) (r := (.bool c40)) (by kernel_rfl) (by kernel_rfl) (Ic.args hc41 (by kernel_rfl)) (by kernel_rfl) ?_
            refine W.opS (OpIs.pk true (t := (decide (c24t1 = c28t1))) (x := (.bool c40)) (y := (.bool false)) (by kernel_rfl) (decide_eq_true h39)) ?_
            refine W.adv 5 ?_
            exact W.fin (x := .ret) (by kernel_rfl) (LAns.of (d := (.bool c40)) (by kernel_rfl) (by rw [H]))
          · refine W.guard false (w := ((decide (c24t1 = c28t1)) == true)) (by kernel_rfl) (congrArg (fun b => b == true) (decide_eq_false h39)) ?_
            refine W.opS (OpIs.pk false (t := (decide (c24t1 = c28t1))) (x := (.tuple [])) (y := (.bool false)) (by kernel_rfl) (decide_eq_false h39)) ?_
            refine W.adv 5 ?_
            exact W.fin (x := .ret) (by kernel_rfl) (LAns.of (d := (.bool false)) (by kernel_rfl) (by rw [H]))
    · refine W.guard false (w := ((decide ((-2000) ≤ a1)) == true)) (by kernel_rfl) (congrArg (fun b => b == true) (decide_eq_false h4)) ?_
      refine W.guard false (w := ((decide ((-2000) ≤ a1)) == true)) (by kernel_rfl) (congrArg (fun b => b == true) (decide_eq_false h4)) ?_
      refine W.opS (OpIs.pk false (t := (decide ((-2000) ≤ a1))) (x := (.tuple [])) (y := (.bool false)) (by kernel_rfl) (decide_eq_false h4)) ?_
      refine W.adv 9 ?_
      obtain ⟨c42t0_0, c42t0_1, c42t0_2, c42t1, hc43, H⟩ := H
      refine W.callR (g := 33) (ds := [(.agg [(.bool c1_0), (.ints .u64 c1_1), (.ints .u64 c1_2)]), (.int .i64 a1)]) (es := [(.agg [(.bool c1_0), (.ints .u64 c1_1), (.ints .u64 c1_2)]), (.int .i64 a1)]) (r := (.tuple [(.agg [(.bool c42t0_0), (.ints .u64 c42t0_1), (.ints .u64 c42t0_2)]), (.int .i64 c42t1)])) (by kernel_rfl) (by kernel_rfl) (Ic.args hc43 (by kernel_rfl)) (by kernel_rfl) ?_
      refine W.adv 11 ?_
      obtain ⟨c44_0, c44_1, c44_2, hc45, H⟩ := H
      refine W.callR (g := 35) (ds := [(.agg [(.bool c1_0), (.ints .u64 c1_1), (.ints .u64 c1_2)])]) (es := [(.agg [(.bool c1_0), (.ints .u64 c1_1), (.ints .u64 c1_2)])]) (r := (.agg [(.bool c44_0), (.ints .i64 c44_1), (.ints .i64 c44_2)])) (by kernel_rfl) (by kernel_rfl) (Ic.args hc45 (by kernel_rfl)) (by kernel_rfl) ?_
      refine W.adv 1 ?_
      obtain ⟨c46t0_0, c46t0_1, c46t0_2, c46t1, hc47, H⟩ := H
      refine W.callR (g := 34) (ds := [(.agg [(.bool c44_0), (.ints .i64 c44_1), (.ints .i64 c44_2)]), (.int .i64 a1)]) (es := [(.agg [(.bool c44_0), (.ints .i64 c44_1), (.ints .i64 c44_2)]), (.int .i64 a1)]) (r := (.tuple [(.agg [(.bool c46t0_0), (.ints .i64 c46t0_1), (.ints .i64 c46t0_2)]), (.int .i64 c46t1)])) (by kernel_rfl) (by kernel_rfl) (Ic.args hc47 (by kernel_rfl)) (by kernel_rfl) ?_
      refine W.adv 15 ?_
      rcases H with ⟨h48, H⟩ | ⟨h48, H⟩
      · refine W.cond false (w := (!(decide (c46t1 = 0)))) (by kernel_rfl) (congrArg (fun b => !b) (decide_eq_true h48)) ?_
        refine W.adv 7 ?_
        rcases H with ⟨h49, H⟩ | ⟨h49, H⟩
        · refine W.guard true (w := ((decide (c42t1 = 0)) == true)) (by kernel_rfl) (congrArg (fun b => b == true) (decide_eq_true h49)) ?_
          refine W.adv 1 ?_
          refine W.guard true (w := ((decide (c42t1 = 0)) == true)) (by kernel_rfl) (congrArg (fun b => b == true) (decide_eq_true h49)) ?_
          refine W.adv 1 ?_
          refine W.guard true (w := ((decide (c42t1 = 0)) == true)) (by kernel_rfl) (congrArg (fun b => b == true) (decide_eq_true h49)) ?_
          obtain ⟨c50_0, c50_1, c50_2, hc51, H⟩ := H
          refine W.callR (g := 23) (ds := [(.agg [(.bool c46t0_0), (.ints .i64 c46t0_1), (.ints .i64 c46t0_2)])]) (es := [(.agg [(.bool c46t0_0), (.ints .i64 c46t0_1), (.ints .i64 c46t0_2)])]) (r := (.agg [(.bool c50_0), (.ints .u64 c50_1), (.ints .u64 c50_2)])) (by kernel_rfl) (by kernel_rfl) (Ic.args hc51 (by kernel_rfl)) (by kernel_rfl) ?_
          refine W.guard true (w := ((decide (c42t1 = 0)) == true)) (by kernel_rfl) (congrArg (fun b => b == true) (decide_eq_true h49)) ?_
          obtain ⟨c52, hc53, H⟩ := H
          refine W.callR (g := 22) (ds := [(.agg [(.bool c42t0_0), (.ints .u64 c42t0_1), (.ints .u64 c42t0_2)]), (.agg [(.bool c50_0), (.ints .u64 c50_1), (.ints .u64 c50_2)])]) (es := [(.agg [(.bool c42t0_0), (.ints .u64 c42t0_1), (.ints .u64 c42t0_2)]), (.agg [(.bool c50_0), (.ints .u64 c50_1), (.ints .u64 c50_2)])]) (r := (.bool c52)) (by kernel_rfl) (by kernel_rfl) (Ic.args hc53 (by kernel_rfl)) (by kernel_rfl) ?_
          refine W.opS (OpIs.pk true (t := (decide (c42t1 = 0))) (x := (.bool c52)) (y := (.bool false)) (by kernel_rfl) (decide_eq_true h49)) ?_
          refine W.adv 1 ?_
          rcases H with ⟨h54, H⟩ | ⟨h54, H⟩
          · refine W.guard true (w := (c52 == true)) (by kernel_rfl) (congrArg (fun b => b == true) h54) ?_
            obtain ⟨c55, hc56, H⟩ := H
            refine W.callR (g := 25) (ds := []) (es := []) (r := (.bool c55)) (by kernel_rfl) (by kernel_rfl) (Ic.args hc56 (by kernel_rfl)) (by kernel_rfl) ?_
            refine W.opS (OpIs.pk true (t := c52) (x := (.bool c55)) (y := (.bool false)) (by kernel_rfl) h54) ?_
            refine W.adv 4 ?_
            exact W.fin (x := .ret) (by kernel_rfl) (LAns.of (d := (.bool c55)) (by kernel_rfl) (by rw [H]))
          · refine W.guard false (w := (c52 == true)) (by kernel_rfl) (congrArg (fun b => b == true) (bfalse h54)) ?_
            refine W.opS (OpIs.pk false (t := c52) (x := (.tuple [])) (y := (.bool false)) (by kernel_rfl) (bfalse h54)) ?_
            refine W.adv 4 ?_
            exact W.fin (x := .ret) (by kernel_rfl) (LAns.of (d := (.bool false)) (by kernel_rfl) (by rw [H]))
        · refine W.guard false (w := ((decide (c42t1 = 0)) == true)) (by kernel_rfl) (congrArg (fun b => b == true) (decide_eq_false h49)) ?_
          refine W.guard false (w := ((decide (c42t1 = 0)) == true)) (by kernel_rfl) (congrArg (fun b => b == true) (decide_eq_false h49)) ?_
          refine W.guard false (w := ((decide (c42t1 = 0)) == true)) (by kernel_rfl) (congrArg (fun b => b == true) (decide_eq_false h49)) ?_
          refine W.guard false (w := ((decide (c42t1 = 0)) == true)) (by kernel_rfl) (congrArg (fun b => b == true) (decide_eq_false h49)) ?_
          refine W.opS (OpIs.pk false (t := (decide (c42t1 = 0))) (x := (.tuple [])) (y := (.bool false)) (by kernel_rfl) (decide_eq_false h49)) ?_
          refine W.adv 7 ?_
          exact W.fin (x := .ret) (by kernel_rfl) (LAns.of (d := (.bool false)) (by kernel_rfl) (by rw [H]))
      · refine W.cond true (w := (!(decide (c46t1 = 0)))) (by kernel_rfl) (congrArg (fun b => !b) (decide_eq_false h48)) ?_
        refine W.adv 6 ?_
        rcases H with ⟨h57, H⟩ | ⟨h57, H⟩
        · refine W.guard true (w := ((decide (c42t1 = c46t1)) == true)) (by kernel_rfl) (congrArg (fun b => b == true) (decide_eq_true h57)) ?_
          obtain ⟨c58, hc59, H⟩ := H
          refine W.callR (g := 25) (ds := []) (es := []) (r := (.bool c58)) (by kernel_rfl) (by kernel_rfl) (Ic.args hc59 (by kernel_rfl)) (by kernel_rfl) ?_
          refine W.opS (OpIs.pk true (t := (decide (c42t1 = c46t1))) (x := (.bool c58)) (y := (.bool false)) (by kernel_rfl) (decide_eq_true h57)) ?_
          refine W.adv 5 ?_
          exact W.fin (x := .ret) (by kernel_rfl) (LAns.of (d := (.bool c58)) (by kernel_rfl) (by rw [H]))
        · refine W.guard false (w := ((decide (c42t1 = c46t1)) == true)) (by kernel_rfl) (congrArg (fun b => b == true) (decide_eq_false h57)) ?_
          refine W.opS (OpIs.pk false (t := (decide (c42t1 = c46t1))) (x := (.tuple [])) (y := (.bool false)) (by kernel_rfl) (decide_eq_false h57)) ?_
          refine W.adv 5 ?_
          exact W.fin (x := .ret) (by kernel_rfl) (LAns.of (d := (.bool false)) (by kernel_rfl) (by rw [H]))
  · refine W.guard true (w := ((decide (12 < a1)) == false)) (by kernel_rfl) (congrArg (fun b => b == false) (decide_eq_false h3)) ?_
    refine W.adv 1 ?_
    refine W.guard true (w := ((decide (12 < a1)) == false)) (by kernel_rfl) (congrArg (fun b => b == false) (decide_eq_false h3)) ?_
    refine W.adv 1 ?_
    refine W.opS (OpIs.pk false (t := (decide (12 < a1))) (x := (.bool true)) (y := (.bool (decide (a1 < (-12))))) (by kernel_rfl) (decide_eq_false h3)) ?_
    refine W.adv 1 ?_
    rcases H with ⟨h60, H⟩ | ⟨h60, H⟩
    · refine W.guard true (w := ((decide (a1 < (-12))) == true)) (by kernel_rfl) (congrArg (fun b => b == true) (decide_eq_true h60)) ?_
      refine W.adv 1 ?_
      refine W.guard true (w := ((decide (a1 < (-12))) == true)) (by kernel_rfl) (congrArg (fun b => b == true) (decide_eq_true h60)) ?_
      refine W.adv 1 ?_
      refine W.opS (OpIs.pk true (t := (decide (a1 < (-12)))) (x := (.bool (decide ((-2000) ≤ a1)))) (y := (.bool false)) (by kernel_rfl) (decide_eq_true h60)) ?_
      refine W.adv 1 ?_
      rcases H with ⟨h61, H⟩ | ⟨h61, H⟩
      · refine W.guard true (w := ((decide ((-2000) ≤ a1)) == true)) (by kernel_rfl) (congrArg (fun b => b == true) (decide_eq_true h61)) ?_
        refine W.adv 1 ?_
        refine W.guard true (w := ((decide ((-2000) ≤ a1)) == true)) (by kernel_rfl) (congrArg (fun b => b == true) (decide_eq_true h61)) ?_
        refine W.adv 1 ?_
        refine W.opS (OpIs.pk true (t := (decide ((-2000) ≤ a1))) (x := (.bool (decide (a1 ≤ 2000)))) (y := (.bool false)) (by kernel_rfl) (decide_eq_true h61)) ?_
        refine W.adv 2 ?_
        rcases H with ⟨h62, H⟩ | ⟨h62, H⟩
        · refine W.cond true (w := (decide (a1 ≤ 2000))) (by kernel_rfl) (decide_eq_true h62) ?_
          refine W.adv 10 ?_
          obtain ⟨c63t0_0, c63t0_1, c63t0_2, c63t1, hc64, H⟩ := H
          refine W.callR (g := 33) (ds := [(.agg [(.bool c1_0), (.ints .u64 c1_1), (.ints .u64 c1_2)]), (.int .i64 (a1.tmod 13))]) (es := [(.agg [(.bool c1_0), (.ints .u64 c1_1), (.ints .u64 c1_2)]), (.int .i64 (a1.tmod 13))]) (r := (.tuple [(.agg [(.bool c63t0_0), (.ints .u64 c63t0_1), (.ints .u64 c63t0_2)]), (.int .i64 c63t1)])) (by kernel_rfl) (by kernel_rfl) (Ic.args hc64 (by kernel_rfl)) (by kernel_rfl) ?_
          refine W.adv 11 ?_
          obtain ⟨c65_0, c65_1, c65_2, hc66, H⟩ := H
          refine W.callR (g := 35) (ds := [(.agg [(.bool c1_0), (.ints .u64 c1_1), (.ints .u64 c1_2)])]) (es := [(.agg [(.bool c1_0), (.ints .u64 c1_1), (.ints .u64 c1_2)])]) (r := (.agg [(.bool c65_0), (.ints .i64 c65_1), (.ints .i64 c65_2)])) (by kernel_rfl) (by kernel_rfl) (Ic.args hc66 (by kernel_rfl)) (by kernel_rfl) ?_
          refine W.adv 1 ?_
          obtain ⟨c67t0_0, c67t0_1, c67t0_2, c67t1, hc68, H⟩ := H
          refine W.callR (g := 34) (ds := [(.agg [(.bool c65_0), (.ints .i64 c65_1), (.ints .i64 c65_2)]), (.int .i64 (a1.tmod 13))]) (es := [(.agg [(.bool c65_0), (.ints .i64 c65_1), (.ints .i64 c65_2)]), (.int .i64 (a1.tmod 13))]) (r := (.tuple [(.agg [(.bool c67t0_0), (.ints .i64 c67t0_1), (.ints .i64 c67t0_2)]), (.int .i64 c67t1)])) (by kernel_rfl) (by kernel_rfl) (Ic.args hc68 (by kernel_rfl)) (by kernel_rfl) ?_
          refine W.adv 15 ?_
          rcases H with ⟨h69, H⟩ | ⟨h69, H⟩
          · refine W.cond false (w := (!(decide (c67t1 = 0)))) (by kernel_rfl) (congrArg (fun b => !b) (decide_eq_true h69)) ?_
            refine W.adv 7 ?_
            rcases H with ⟨h70, H⟩ | ⟨h70, H⟩
            · refine W.guard true (w := ((decide (c63t1 = 0)) == true)) (by kernel_rfl) (congrArg (fun b => b == true) (decide_eq_true h70)) ?_
              refine W.adv 1 ?_
              refine W.guard true (w := ((decide (c63t1 = 0)) == true)) (by kernel_rfl) (congrArg (fun b => b == true) (decide_eq_true h70)) ?_
              refine W.adv 1 ?_
              refine W.guard true (w := ((decide (c63t1 = 0)) == true)) (by kernel_rfl) (congrArg (fun b => b == true) (decide_eq_true h70)) ?_
              obtain ⟨c71_0, c71_1, c71_2, hc72, H⟩ := H
              refine W.callR (g := 23) (ds := [(.agg [(.bool c67t0_0), (.ints .i64 c67t0_1), (.ints .i64 c67t0_2)])]) (es := [(.agg [(.bool c67t0_0), (.ints .i64 c67t0_1), (.ints .i64 c67t0_2)])]) (r := (.agg [(.bool c71_0), (.ints .u64 c71_1), (.ints .u64 c71_2)])) (by kernel_rfl) (by kernel_rfl) (Ic.args hc72 (by kernel_rfl)) (by kernel_rfl) ?_
              refine W.guard true (w := ((decide (c63t1 = 0)) == true)) (by kernel_rfl) (congrArg (fun b => b == true) (decide_eq_true h70)) ?_
              obtain ⟨c73, hc74, H⟩ := H
              refine W.callR (g := 22) (ds := [(.agg [(.bool c63t0_0), (.ints .u64 c63t0_1), (.ints .u64 c63t0_2)]), (.agg [(.bool c71_0), (.ints .u64 c71_1), (.ints .u64 c71_2)])]) (es := [(.agg [(.bool c63t0_0), (.ints .u64 c63t0_1), (.ints .u64 c63t0_2)]), (.agg [(.bool c71_0), (.ints .u64 c71_1), (.ints .u64 c71_2)])]) (r := (.bool c73)) (by kernel_rfl) (by kernel_rfl) (Ic.args hc74 (by kernel_rfl)) (by kernel_rfl) ?_
              refine W.opS (OpIs.pk true (t := (decide (c63t1 = 0))) (x := (.bool c73)) (y := (.bool false)) (by kernel_rfl) (decide_eq_true h70)) ?_
              refine W.adv 1 ?_
              rcases H with ⟨h75, H⟩ | ⟨h75, H⟩
              · refine W.guard true (w := (c73 == true)) (by kernel_rfl) (congrArg (fun b => b == true) h75) ?_
                obtain ⟨c76, hc77, H⟩ := H
                refine W.callR (g := 25) (ds := []) (es := []) (r := (.bool c76)) (by kernel_rfl) (by kernel_rfl) (Ic.args hc77 (by kernel_rfl)) (by kernel_rfl) ?_
                refine W.opS (OpIs.pk true (t := c73) (x := (.bool c76)) (y := (.bool false)) (by kernel_rfl) h75) ?_
                refine W.adv 4 ?_
                exact W.fin (x := .ret) (by kernel_rfl) (LAns.of (d := (.bool c76)) (by kernel_rfl) (by rw [H]))
              · refine W.guard false (w := (c73 == true)) (by kernel_rfl) (congrArg (fun b => b == true) (bfalse h75)) ?_
                refine W.opS (OpIs.pk false (t := c73) (x := (.tuple [])) (y := (.bool false)) (by kernel_rfl) (bfalse h75)) ?_
                refine W.adv 4 ?_
                exact W.fin (x := .ret) (by kernel_rfl) (LAns.of (d := (.bool false)) (by kernel_rfl) (by rw [H]))
            · refine W.guard false (w := ((decide (c63t1 = 0)) == true)) (by kernel_rfl) (congrArg (fun b => b == true) (decide_eq_false h70)) ?_
              refine W.guard false (w := ((decide (c63t1 = 0)) == true)) (by kernel_rfl) (congrArg (fun b => b == true) (decide_eq_false h70)) ?_
              refine W.guard false (w := ((decide (c63t1 = 0)) == true)) (by kernel_rfl) (congrArg (fun b => b == true) (decide_eq_false h70)) ?_
              refine W.guard false (w := ((decide (c63t1 = 0)) == true)) (by kernel_rfl) (congrArg (fun b => b == true) (decide_eq_false h70)) ?_
              refine W.opS (OpIs.pk false (t := (decide (c63t1 = 0))) (x := (.tuple [])) (y := (.bool false)) (by kernel_rfl) (decide_eq_false h70)) ?_
              refine W.adv 7 ?_
              exact W.fin (x := .ret) (by kernel_rfl) (LAns.of (d := (.bool false)) (by kernel_rfl) (by rw [H]))
          · refine W.cond true (w := (!(decide (c67t1 = 0)))) (by kernel_rfl) (congrArg (fun b => !b) (decide_eq_false h69)) ?_
            refine W.adv 6 ?_
            rcases H with ⟨h78, H⟩ | ⟨h78, H⟩
            · refine W.guard true (w := ((decide (c63t1 = c67t1)) == true)) (by kernel_rfl) (congrArg (fun b => b == true) (decide_eq_true h78)) ?_
              obtain ⟨c79, hc80, H⟩ := H
              refine W.callR (g := 25) (ds := []) (es := []) (r := (.bool c79)) (by kernel_rfl) (by kernel_rfl) (Ic.args hc80 (by kernel_rfl)) (by kernel_rfl) ?_
              refine W.opS (OpIs.pk true (t := (decide (c63t1 = c67t1))) (x := (.bool c79)) (y := (.bool false)) (by kernel_rfl) (decide_eq_true h78)) ?_
              refine W.adv 5 ?_
              exact W.fin (x := .ret) (by kernel_rfl) (LAns.of (d := (.bool c79)) (by kernel_rfl) (by rw [H]))
            · refine W.guard false (w := ((decide (c63t1 = c67t1)) == true)) (by kernel_rfl) (congrArg (fun b => b == true) (decide_eq_false h78)) ?_
              refine W.opS (OpIs.pk false (t := (decide (c63t1 = c67t1))) (x := (.tuple [])) (y := (.bool false)) (by kernel_rfl) (decide_eq_false h78)) ?_
              refine W.adv 5 ?_
              exact W.fin (x := .ret) (by kernel_rfl) (LAns.of (d := (.bool false)) (by kernel_rfl) (by rw [H]))
        · refine W.cond false (w := (decide (a1 ≤ 2000))) (by kernel_rfl) (decide_eq_false h62) ?_
          refine W.adv 6 ?_
          obtain ⟨c81t0_0, c81t0_1, c81t0_2, c81t1, hc82, H⟩ := H
          refine W.callR (g := 33) (ds := [(.agg [(.bool c1_0), (.ints .u64 c1_1), (.ints .u64 c1_2)]), (.int .i64 a1)]) (es := [(.agg [(.bool c1_0), (.ints .u64 c1_1), (.ints .u64 c1_2)]), (.int .i64 a1)]) (r := (.tuple [(.agg [(.bool c81t0_0), (.ints .u64 c81t0_1), (.ints .u64 c81t0_2)]), (.int .i64 c81t1)])) (by kernel_rfl) (by kernel_rfl) (Ic.args hc82 (by kernel_rfl)) (by kernel_rfl) ?_
          refine W.adv 11 ?_
          obtain ⟨c83_0, c83_1, c83_2, hc84, H⟩ := H
          refine W.callR (g := 35) (ds := [(.agg [(.bool c1_0), (.ints .u64 c1_1), (.ints .u64 c1_2)])]) (es := [(.agg [(.bool c1_0), (.ints .u64 c1_1), (.ints .u64 c1_2)])]) (r := (.agg [(.bool c83_0), (.ints .i64 c83_1), (.ints .i64 c83_2)])) (by kernel_rfl) (by kernel_rfl) (Ic.args hc84 (by kernel_rfl)) (by kernel_rfl) ?_
          refine W.adv 1 ?_
          obtain ⟨c85t0_0, c85t0_1, c85t0_2, c85t1, hc86, H⟩ := H
          refine W.callR (g := 34) (ds := [(.agg [(.bool c83_0), (.ints .i64 c83_1), (.ints .i64 c83_2)]), (.int .i64 a1)]) (es := [(.agg [(.bool c83_0), (.ints .i64 c83_1), (.ints .i64 c83_2)]), (.int .i64 a1)]) (r := (.tuple [(.agg [(.bool c85t0_0), (.ints .i64 c85t0_1), (.ints .i64 c85t0_2)]), (.int .i64 c85t1)])) (by kernel_rfl) (by kernel_rfl) (Ic.args hc86 (by kernel_rfl)) (by kernel_rfl) ?_
          refine W.adv 15 ?_
          rcases H with ⟨h87, H⟩ | ⟨h87, H⟩
          · refine W.cond false (w := (!(decide (c85t1 = 0)))) (by kernel_rfl) (congrArg (fun b => !b) (decide_eq_true h87)) ?_
            refine W.adv 7 ?_
            rcases H with ⟨h88, H⟩ | ⟨h88, H⟩
            · refine W.guard true (w := ((decide (c81t1 = 0)) == true)) (by kernel_rfl) (congrArg (fun b => b == true) (decide_eq_true h88)) ?_
              refine W.adv 1 ?_
              refine W.guard true (w := ((decide (c81t1 = 0)) == true)) (by kernel_rfl) (congrArg (fun b => b == true) (decide_eq_true h88)) ?_
              refine W.adv 1 ?_
              refine W.guard true (w := ((decide (c81t1 = 0)) == true)) (by kernel_rfl) (congrArg (fun b => b == true) (decide_eq_true h88)) ?_
              obtain ⟨c89_0, c89_1, c89_2, hc90, H⟩ := H
              refine W.callR (g := 23) (ds := [(.agg [(.bool c85t0_0), (.ints .i64 c85t0_1), (.ints .i64 c85t0_2)])]) (es := [(.agg [(.bool c85t0_0), (.ints .i64 c85t0_1), (.ints .i64 c85t0_2)])]) (r := (.agg [(.bool c89_0), (.ints .u64 c89_1), (.ints .u64 c89_2)])) (by kernel_rfl) (by kernel_rfl) (Ic.args hc90 (by kernel_rfl)) (by kernel_rfl) ?_
              refine W.guard true (w := ((decide (c81t1 = 0)) == true)) (by kernel_rfl) (congrArg (fun b => b == true) (decide_eq_true h88)) ?_
              obtain ⟨c91, hc92, H⟩ := H
              refine W.callR (g := 22) (ds := [(.agg [(.bool c81t0_0), (.ints .u64 c81t0_1), (.ints .u64 c81t0_2)]), (.agg [(.bool c89_0), (.ints .u64 c89_1), (.ints .u64 c89_2)])]) (es := [(.agg [(.bool c81t0_0), (.ints .u64 c81t0_1), (.ints .u64 c81t0_2)]), (.agg [(.bool c89_0), (.ints .u64 c89_1), (.ints .u64 c89_2)])]) (r := (.bool c91)) (by kernel_rfl) (by kernel_rfl) (Ic.args hc92 (by kernel_rfl)) (by kernel_rfl) ?_
              refine W.opS (OpIs.pk true (t := (decide (c81t1 = 0))) (x := (.bool c91)) (y := (.bool false)) (by kernel_rfl) (decide_eq_true h88)) ?_
              refine W.adv 1 ?_
              rcases H with ⟨h93, H⟩ | ⟨h93, H⟩
              · refine W.guard true (w := (c91 == true)) (by kernel_rfl) (congrArg (fun b => b == true) h93) ?_
                obtain ⟨c94, hc95, H⟩ := H
                refine W.callR (g := 25) (ds := []) (es := []) (r := (.bool c94)) (by kernel_rfl) (by kernel_rfl) (Ic.args hc95 (by kernel_rfl)) (by kernel_rfl) ?_
                refine W.opS (OpIs.pk true (t := c91) (x := (.bool c94)) (y := (.bool false)) (by kernel_rfl) h93) ?_
                refine W.adv 4 ?_
                exact W.fin (x := .ret) (by kernel_rfl) (LAns.of (d := (.bool c94)) (by kernel_rfl) (by rw [H]))
              · refine W.guard false (w := (c91 == true)) (by kernel_rfl) (congrArg (fun b => b == true) (bfalse h93)) ?_
                refine W.opS (OpIs.pk false (t := c91) (x := (.tuple [])) (y := (.bool false)) (by kernel_rfl) (bfalse h93)) ?_
                refine W.adv 4 ?_
                exact W.fin (x := .ret) (by kernel_rfl) (LAns.of (d := (.bool false)) (by kernel_rfl) (by rw [H]))
            · refine W.guard false (w := ((decide (c81t1 = 0)) == true)) (by kernel_rfl) (congrArg (fun b => b == true) (decide_eq_false h88)) ?_
              refine W.guard false (w := ((decide (c81t1 = 0)) == true)) (by kernel_rfl) (congrArg (fun b => b == true) (decide_eq_false h88)) ?_
              refine W.guard false (w := ((decide (c81t1 = 0)) == true)) (by kernel_rfl) (congrArg (fun b => b == true) (decide_eq_false h88)) ?_
              refine W.guard false (w := ((decide (c81t1 = 0)) == true)) (by kernel_rfl) (congrArg (fun b => b == true) (decide_eq_false h88)) ?_
              refine W.opS (OpIs.pk false (t := (decide (c81t1 = 0))) (x := (.tuple [])) (y := (.bool false)) (by kernel_rfl) (decide_eq_false h88)) ?_
              refine W.adv 7 ?_
              exact W.fin (x := .ret) (by kernel_rfl) (LAns.of (d := (.bool false)) (by kernel_rfl) (by rw [H]))
          · refine W.cond true (w := (!(decide (c85t1 = 0)))) (by kernel_rfl) (congrArg (fun b => !b) (decide_eq_false h87)) ?_
            refine W.adv 6 ?_
            rcases H with ⟨h96, H⟩ | ⟨h96, H⟩
            · refine W.guard true (w := ((decide (c81t1 = c85t1)) == true)) (by kernel_rfl) (congrArg (fun b => b == true) (decide_eq_true h96)) ?_
              obtain ⟨c97, hc98, H⟩ := H
              refine W.callR (g := 25) (ds := []) (es := []) (r := (.bool c97)) (by kernel_rfl) (by kernel_rfl) (Ic.args hc98 (by kernel_rfl)) (by kernel_rfl) ?_
              refine W.opS (OpIs.pk true (t := (decide (c81t1 = c85t1))) (x := (.bool c97)) (y := (.bool false)) (by kernel_rfl) (decide_eq_true h96)) ?_
              refine W.adv 5 ?_
              exact W.fin (x := .ret) (by kernel_rfl) (LAns.of (d := (.bool c97)) (by kernel_rfl) (by rw [H]))
            · refine W.guard false (w := ((decide (c81t1 = c85t1)) == true)) (by kernel_rfl) (congrArg (fun b => b == true) (decide_eq_false h96)) ?_
              refine W.opS (OpIs.pk false (t := (decide (c81t1 = c85t1))) (x := (.tuple [])) (y := (.bool false)) (by kernel_rfl) (decide_eq_false h96)) ?_
              refine W.adv 5 ?_
              exact W.fin (x := .ret) (by kernel_rfl) (LAns.of (d := (.bool false)) (by kernel_rfl) (by rw [H]))
      · refine W.guard false (w := ((decide ((-2000) ≤ a1)) == true)) (by kernel_rfl) (congrArg (fun b => b == true) (decide_eq_false h61)) ?_
        refine W.guard false (w := ((decide ((-2000) ≤ a1)) == true)) (by kernel_rfl) (congrArg (fun b => b == true) (decide_eq_false h61)) ?_
        refine W.opS (OpIs.pk false (t := (decide ((-2000) ≤ a1))) (x := (.tuple [])) (y := (.bool false)) (by kernel_rfl) (decide_eq_false h61)) ?_
        refine W.adv 9 ?_
        obtain ⟨c99t0_0, c99t0_1, c99t0_2, c99t1, hc100, H⟩ := H
        refine W.callR (g := 33) (ds := [(.agg [(.bool c1_0), (.ints .u64 c1_1), (.ints .u64 c1_2)]), (.int .i64 a1)]) (es := [(.agg [(.bool c1_0), (.ints .u64 c1_1), (.ints .u64 c1_2)]), (.int .i64 a1)]) (r := (.tuple [(.agg [(.bool c99t0_0), (.ints .u64 c99t0_1), (.ints .u64 c99t0_2)]), (.int .i64 c99t1)])) (by kernel_rfl) (by kernel_rfl) (Ic.args hc100 (by kernel_rfl)) (by kernel_rfl) ?_
        refine W.adv 11 ?_
        obtain ⟨c101_0, c101_1, c101_2, hc102, H⟩ := H
        refine W.callR (g := 35) (ds := [(.agg [(.bool c1_0), (.ints .u64 c1_1), (.ints .u64 c1_2)])]) (es := [(.agg [(.bool c1_0), (.ints .u64 c1_1), (.ints .u64 c1_2)])]) (r := (.agg [(.bool c101_0), (.ints .i64 c101_1), (.ints .i64 c101_2)])) (by kernel_rfl) (by kernel_rfl) (Ic.args hc102 (by kernel_rfl)) (by kernel_rfl) ?_
        refine W.adv 1 ?_
        obtain ⟨c103t0_0, c103t0_1, c103t0_2, c103t1, hc104, H⟩ := H
        refine W.callR (g := 34) (ds := [(.agg [(.bool c101_0), (.ints .i64 c101_1), (.ints .i64 c101_2)]), (.int .i64 a1)]) (es := [(.agg [(.bool c101_0), (.ints .i64 c101_1), (.ints .i64 c101_2)]), (.int .i64 a1)]) (r := (.tuple [(.agg [(.bool c103t0_0), (.ints .i64 c103t0_1), (.ints .i64 c103t0_2)]), (.int .i64 c103t1)])) (by kernel_rfl) (by kernel_rfl) (Ic.args hc104 (by kernel_rfl)) (by kernel_rfl) ?_
        refine W.adv 15 ?_
        rcases H with ⟨h105, H⟩ | ⟨h105, H⟩
        · refine W.cond false (w := (!(decide (c103t1 = 0)))) (by kernel_rfl) (congrArg (fun b => !b) (decide_eq_true h105)) ?_
          refine W.adv 7 ?_
          rcases H with ⟨h106, H⟩ | ⟨h106, H⟩
          · refine W.guard true (w := ((decide (c99t1 = 0)) == true)) (by kernel_rfl) (congrArg (fun b => b == true) (decide_eq_true h106)) ?_
            refine W.adv 1 ?_
            refine W.guard true (w := ((decide (c99t1 = 0)) == true)) (by kernel_rfl) (congrArg (fun b => b == true) (decide_eq_true h106)) ?_
            refine W.adv 1 ?_
            refine W.guard true (w := ((decide (c99t1 = 0)) == true)) (by kernel_rfl) (congrArg (fun b => b == true) (decide_eq_true h106)) ?_
            obtain ⟨c107_0, c107_1, c107_2, hc108, H⟩ := H
            refine W.callR (g := 23) (ds := [(.agg [(.bool c103t0_0), (.ints .i64 c103t0_1), (.ints .i64 c103t0_2)])]) (es := [(.agg [(.bool c103t0_0), (.ints .i64 c103t0_1), (.ints .i64 c103t0_2)])]) (r := (.agg [(.bool c107_0), (.ints .u64 c107_1), (.ints .u64 c107_2)])) (by kernel_rfl) (by kernel_rfl) (Ic.args hc108 (by kernel_rfl)) (by kernel_rfl) ?_
            refine W.guard true (w := ((decide (c99t1 = 0)) == true)) (by kernel_rfl) (congrArg (fun b => b == true) (decide_eq_true h106)) ?_
            obtain ⟨c109, hc110, H⟩ := H
            refine W.callR (g := 22) (ds := [(.agg [(.bool c99t0_0), (.ints .u64 c99t0_1), (.ints .u64 c99t0_2)]), (.agg [(.bool c107_0), (.ints .u64 c107_1), (.ints .u64 c107_2)])]) (es := [(.agg [(.bool c99t0_0), (.ints .u64 c99t0_1), (.ints .u64 c99t0_2)]), (.agg [(.bool c107_0), (.ints .u64 c107_1), (.ints .u64 c107_2)])]) (r := (.bool c109)) (by kernel_rfl) (by kernel_rfl) (Ic.args hc110 (by kernel_rfl)) (by kernel_rfl) ?_
            refine W.opS (OpIs.pk true (t := (decide (c99t1 = 0))) (x := (.bool c109)) (y := (.bool false)) (by kernel_rfl) (decide_eq_true h106)) ?_
            refine W.adv 1 ?_
            rcases H with ⟨h111, H⟩ | ⟨h111, H⟩
            · refine W.guard true (w := (c109 == true)) (by kernel_rfl) (congrArg (fun b => b == true) h111) ?_
              obtain ⟨c112, hc113, H⟩ := H
              refine W.callR (g := 25) (ds := []) (es := []) (r := (.bool c112)) (by kernel_rfl) (by kernel_rfl) (Ic.args hc113 (by kernel_rfl)) (by kernel_rfl) ?_
              refine W.opS (OpIs.pk true (t := c109) (x := (.bool c112)) (y := (.bool false)) (by kernel_rfl) h111) ?_
              refine W.adv 4 ?_
              exact W.fin (x := .ret) (by kernel_rfl) (LAns.of (d := (.bool c112)) (by kernel_rfl) (by rw [H]))
            · refine W.guard false (w := (c109 == true)) (by kernel_rfl) (congrArg (fun b => b == true) (bfalse h111)) ?_
              refine W.opS (OpIs.pk false (t := c109) (x := (.tuple [])) (y := (.bool false)) (by kernel_rfl) (bfalse h111)) ?_
              refine W.adv 4 ?_
              exact W.fin (x := .ret) (by kernel_rfl) (LAns.of (d := (.bool false)) (by kernel_rfl) (by rw [H]))
          · refine W.guard false (w := ((decide (c99t1 = 0)) == true)) (by kernel_rfl) (congrArg (fun b => b == true) (decide_eq_false h106)) ?_
            refine W.guard false (w := ((decide (c99t1 = 0)) == true)) (by kernel_rfl) (congrArg (fun b => b == true) (decide_eq_false h106)) ?_
            refine W.guard false (w := ((decide (c99t1 = 0)) == true)) (by kernel_rfl) (congrArg (fun b => b == true) (decide_eq_false h106)) ?_
            refine W.guard false (w := ((decide (c99t1 = 0)) == true)) (by kernel_rfl) (congrArg (fun b => b == true) (decide_eq_false h106)) ?_
            refine W.opS (OpIs.pk false (t := (decide (c99t1 = 0))) (x := (.tuple [])) (y := (.bool false)) (by kernel_rfl) (decide_eq_false h106)) ?_
            refine W.adv 7 ?_
            exact W.fin (x := .ret) (by kernel_rfl) (LAns.of (d := (.bool false)) (by kernel_rfl) (by rw [H]))
        · refine W.cond true (w := (!(decide (c103t1 = 0)))) (by kernel_rfl) (congrArg (fun b => !b) (decide_eq_false h105)) ?_
          refine W.adv 6 ?_
          rcases H with ⟨h114, H⟩ | ⟨h114, H⟩
          · refine W.guard true (w := ((decide (c99t1 = c103t1)) == true)) (by kernel_rfl) (congrArg (fun b => b == true) (decide_eq_true h114)) ?_
            obtain ⟨c115, hc116, H⟩ := H
            refine W.callR (g := 25) (ds := []) (es := []) (r := (.bool c115)) (by kernel_rfl) (by kernel_rfl) (Ic.args hc116 (by kernel_rfl)) (by kernel_rfl) ?_
            refine W.opS (OpIs.pk true (t := (decide (c99t1 = c103t1))) (x := (.bool c115)) (y := (.bool false)) (by kernel_rfl) (decide_eq_true h114)) ?_
            refine W.adv 5 ?_
            exact W.fin (x := .ret) (by kernel_rfl) (LAns.of (d := (.bool c115)) (by kernel_rfl) (by rw [H]))
          · refine W.guard false (w := ((decide (c99t1 = c103t1)) == true)) (by kernel_rfl) (congrArg (fun b => b == true) (decide_eq_false h114)) ?_
            refine W.opS (OpIs.pk false (t := (decide (c99t1 = c103t1))) (x := (.tuple [])) (y := (.bool false)) (by kernel_rfl) (decide_eq_false h114)) ?_
            refine W.adv 5 ?_
            exact W.fin (x := .ret) (by kernel_rfl) (LAns.of (d := (.bool false)) (by kernel_rfl) (by rw [H]))
    · refine W.guard false (w := ((decide (a1 < (-12))) == true)) (by kernel_rfl) (congrArg (fun b => b == true) (decide_eq_false h60)) ?_
      refine W.guard false (w := ((decide (a1 < (-12))) == true)) (by kernel_rfl) (congrArg (fun b => b == true) (decide_eq_false h60)) ?_
      refine W.opS (OpIs.pk false (t := (decide (a1 < (-12)))) (x := (.tuple [])) (y := (.bool false)) (by kernel_rfl) (decide_eq_false h60)) ?_
      refine W.adv 13 ?_
      obtain ⟨c117t0_0, c117t0_1, c117t0_2, c117t1, hc118, H⟩ := H
      refine W.callR (g := 33) (ds := [(.agg [(.bool c1_0), (.ints .u64 c1_1), (.ints .u64 c1_2)]), (.int .i64 a1)]) (es := [(.agg [(.bool c1_0), (.ints .u64 c1_1), (.ints .u64 c1_2)]), (.int .i64 a1)]) (r := (.tuple [(.agg [(.bool c117t0_0), (.ints .u64 c117t0_1), (.ints .u64 c117t0_2)]), (.int .i64 c117t1)])) (by kernel_rfl) (by kernel_rfl) (Ic.args hc118 (by kernel_rfl)) (by kernel_rfl) ?_
      refine W.adv 11 ?_
      obtain ⟨c119_0, c119_1, c119_2, hc120, H⟩ := H
      refine W.callR (g := 35) (ds := [(.agg [(.bool c1_0), (.ints .u64 c1_1), (.ints .u64 c1_2)])]) (es := [(.agg [(.bool c1_0), (.ints .u64 c1_1), (.ints .u64 c1_2)])]) (r := (.agg [(.bool c119_0), (.ints .i64 c119_1), (.ints .i64 c119_2)])) (by kernel_rfl) (by kernel_rfl) (Ic.args hc120 (by kernel_rfl)) (by kernel_rfl) ?_
      refine W.adv 1 ?_
      obtain ⟨c121t0_0, c121t0_1, c121t0_2, c121t1, hc122, H⟩ := H
      refine W.callR (g := 34) (ds := [(.agg [(.bool c119_0), (.ints .i64 c119_1), (.ints .i64 c119_2)]), (.int .i64 a1)]) (es := [(.agg [(.bool c119_0), (.ints .i64 c119_1), (.ints .i64 c119_2)]), (.int .i64 a1)]) (r := (.tuple [(.agg [(.bool c121t0_0), (.ints .i64 c121t0_1), (.ints .i64 c121t0_2)]), (.int .i64 c121t1)])) (by kernel_rfl) (by kernel_rfl) (Ic.args hc122 (by kernel_rfl)) (by kernel_rfl) ?_
      refine W.adv 15 ?_
      rcases H with ⟨h123, H⟩ | ⟨h123, H⟩
      · refine W.cond false (w := (!(decide (c121t1 = 0)))) (by kernel_rfl) (congrArg (fun b => !b) (decide_eq_true h123)) ?_
        refine W.adv 7 ?_
        rcases H with ⟨h124, H⟩ | ⟨h124, H⟩
        · refine W.guard true (w := ((decide (c117t1 = 0)) == true)) (by kernel_rfl) (congrArg (fun b => b == true) (decide_eq_true h124)) ?_
          refine W.adv 1 ?_
          refine W.guard true (w := ((decide (c117t1 = 0)) == true)) (by kernel_rfl) (congrArg (fun b => b == true) (decide_eq_true h124)) ?_
          refine W.adv 1 ?_
          refine W.guard true (w := ((decide (c117t1 = 0)) == true)) (by kernel_rfl) (congrArg (fun b => b == true) (decide_eq_true h124)) ?_
          obtain ⟨c125_0, c125_1, c125_2, hc126, H⟩ := H
          refine W.callR (g := 23) (ds := [(.agg [(.bool c121t0_0), (.ints .i64 c121t0_1), (.ints .i64 c121t0_2)])]) (es := [(.agg [(.bool c121t0_0), (.ints .i64 c121t0_1), (.ints .i64 c121t0_2)])]) (r := (.agg [(.bool c125_0), (.ints .u64 c125_1), (.ints .u64 c125_2)])) (by kernel_rfl) (by kernel_rfl) (Ic.args hc126 (by kernel_rfl)) (by kernel_rfl) ?_
          refine W.guard true (w := ((decide (c117t1 = 0)) == true)) (by kernel_rfl) (congrArg (fun b => b == true) (decide_eq_true h124)) ?_
          obtain ⟨c127, hc128, H⟩ := H
          refine W.callR (g := 22) (ds := [(.agg [(.bool c117t0_0), (.ints .u64 c117t0_1), (.ints .u64 c117t0_2)]), (.agg [(.bool c125_0), (.ints .u64 c125_1), (.ints .u64 c125_2)])]) (es := [(.agg [(.bool c117t0_0), (.ints .u64 c117t0_1), (.ints .u64 c117t0_2)]), (.agg [(.bool c125_0), (.ints .u64 c125_1), (.ints .u64 c125_2)])]) (r := (.bool c127)) (by kernel_rfl) (by kernel_rfl) (Ic.args hc128 (by kernel_rfl)) (by kernel_rfl) ?_
          refine W.opS (OpIs.pk true (t := (decide (c117t1 = 0))) (x := (.bool c127)) (y := (.bool false)) (by kernel_rfl) (decide_eq_true h124)) ?_
          refine W.adv 1 ?_
          rcases H with ⟨h129, H⟩ | ⟨h129, H⟩
          · refine W.guard true (w := (c127 == true)) (by kernel_rfl) (congrArg (fun b => b == true) h129) ?_
            obtain ⟨c130, hc131, H⟩ := H
            refine W.callR (g := 25) (ds := []) (es := []) (r := (.bool c130)) (by kernel_rfl) (by kernel_rfl) (Ic.args hc131 (by kernel_rfl)) (by kernel_rfl) ?_
            refine W.opS (OpIs.pk true (t := c127) (x := (.bool c130)) (y := (.bool false)) (by kernel_rfl) h129) ?_
            refine W.adv 4 ?_
            exact W.fin (x := .ret) (by kernel_rfl) (LAns.of (d := (.bool c130)) (by kernel_rfl) (by rw [H]))
          · refine W.guard false (w := (c127 == true)) (by kernel_rfl) (congrArg (fun b => b == true) (bfalse h129)) ?_
            refine W.opS (OpIs.pk false (t := c127) (x := (.tuple [])) (y := (.bool false)) (by kernel_rfl) (bfalse h129)) ?_
            refine W.adv 4 ?_
            exact W.fin (x := .ret) (by kernel_rfl) (LAns.of (d := (.bool false)) (by kernel_rfl) (by rw [H]))
        · refine W.guard false (w := ((decide (c117t1 = 0)) == true)) (by kernel_rfl) (congrArg (fun b => b == true) (decide_eq_false h124)) ?_
          refine W.guard false (w := ((decide (c117t1 = 0)) == true)) (by kernel_rfl) (congrArg (fun b => b == true) (decide_eq_false h124)) ?_
          refine W.guard false (w := ((decide (c117t1 = 0)) == true)) (by kernel_rfl) (congrArg (fun b => b == true) (decide_eq_false h124)) ?_
          refine W.guard false (w := ((decide (c117t1 = 0)) == true)) (by kernel_rfl) (congrArg (fun b => b == true) (decide_eq_false h124)) ?_
          refine W.opS (OpIs.pk false (t := (decide (c117t1 = 0))) (x := (.tuple [])) (y := (.bool false)) (by kernel_rfl) (decide_eq_false h124)) ?_
          refine W.adv 7 ?_
          exact W.fin (x := .ret) (by kernel_rfl) (LAns.of (d := (.bool false)) (by kernel_rfl) (by rw [H]))
      · refine W.cond true (w := (!(decide (c121t1 = 0)))) (by kernel_rfl) (congrArg (fun b => !b) (decide_eq_false h123)) ?_
        refine W.adv 6 ?_
        rcases H with ⟨h132, H⟩ | ⟨h132, H⟩
        · refine W.guard true (w := ((decide (c117t1 = c121t1)) == true)) (by kernel_rfl) (congrArg (fun b => b == true) (decide_eq_true h132)) ?_
          obtain ⟨c133, hc134, H⟩ := H
          refine W.callR (g := 25) (ds := []) (es := []) (r := (.bool c133)) (by kernel_rfl) (by kernel_rfl) (Ic.args hc134 (by kernel_rfl)) (by kernel_rfl) ?_
          refine W.opS (OpIs.pk true (t := (decide (c117t1 = c121t1))) (x := (.bool c133)) (y := (.bool false)) (by kernel_rfl) (decide_eq_true h132)) ?_
          refine W.adv 5 ?_
          exact W.fin (x := .ret) (by kernel_rfl) (LAns.of (d := (.bool c133)) (by kernel_rfl) (by rw [H]))
        · refine W.guard false (w := ((decide (c117t1 = c121t1)) == true)) (by kernel_rfl) (congrArg (fun b => b == true) (decide_eq_false h132)) ?_
          refine W.opS (OpIs.pk false (t := (decide (c117t1 = c121t1))) (x := (.tuple [])) (y := (.bool false)) (by kernel_rfl) (decide_eq_false h132)) ?_
          refine W.adv 5 ?_
          exact W.fin (x := .ret) (by kernel_rfl) (LAns.of (d := (.bool false)) (by kernel_rfl) (by rw [H]))
end Go.Proofs.YteepbjndbemcdaaA
