/- Walks through the functions: what makes each relation true. -/
import Derived.Test.YtcmajlphfnihgaaW0
set_option linter.unusedVariables false
set_option maxRecDepth 100000
namespace Go.Proofs.YtcmajlphfnihgaaA
open Go Go.Proofs
/-! ### trivium/triviumlaw08.RatSmalls -/
theorem law08_RatSmalls_go {a0 : Int} {a1 : Int} {z : Bool} (H : ((a0 < (-1152921504606846976) ∧ (∃ c2t0_0 : Bool, (∃ c2t0_1 : List Int, (∃ c2t0_2 : List Int, (∃ c2t1 : Int, (rat_Frac_R a0 a1 c2t0_0 c2t0_1 c2t0_2 c2t1 ∧ (∃ c4_0 : Bool, (∃ c4_1 : List Int, (whole_Of_R a0 c4_0 c4_1 ∧ (∃ c6_0 : Bool, (∃ c6_1 : List Int, (whole_Of_R a1 c6_0 c6_1 ∧ (∃ c8t0_0 : Bool, (∃ c8t0_1 : List Int, (∃ c8t0_2 : List Int, (∃ c8t1 : Int, (rat_Make_R c4_0 c4_1 c6_0 c6_1 c8t0_0 c8t0_1 c8t0_2 c8t1 ∧ (∃ c10 : Bool, (ref08_Same_R c2t0_0 c2t0_1 c2t0_2 c8t0_0 c8t0_1 c8t0_2 c10 ∧ ((c10 = true ∧ ((c2t1 = c8t1 ∧ (∃ c14 : Bool, (law08_works_R c14 ∧ (z = c14)))) ∨ (¬ c2t1 = c8t1 ∧ (z = false)))) ∨ (¬ c10 = true ∧ (z = false)))))))))))))))))))))) ∨ (¬ a0 < (-1152921504606846976) ∧ ((1152921504606846976 < a0 ∧ (∃ c17t0_0 : Bool, (∃ c17t0_1 : List Int, (∃ c17t0_2 : List Int, (∃ c17t1 : Int, (rat_Frac_R a0 a1 c17t0_0 c17t0_1 c17t0_2 c17t1 ∧ (∃ c19_0 : Bool, (∃ c19_1 : List Int, (whole_Of_R a0 c19_0 c19_1 ∧ (∃ c21_0 : Bool, (∃ c21_1 : List Int, (whole_Of_R a1 c21_0 c21_1 ∧ (∃ c23t0_0 : Bool, (∃ c23t0_1 : List Int, (∃ c23t0_2 : List Int, (∃ c23t1 : Int, (rat_Make_R c19_0 c19_1 c21_0 c21_1 c23t0_0 c23t0_1 c23t0_2 c23t1 ∧ (∃ c25 : Bool, (ref08_Same_R c17t0_0 c17t0_1 c17t0_2 c23t0_0 c23t0_1 c23t0_2 c25 ∧ ((c25 = true ∧ ((c17t1 = c23t1 ∧ (∃ c29 : Bool, (law08_works_R c29 ∧ (z = c29)))) ∨ (¬ c17t1 = c23t1 ∧ (z = false)))) ∨ (¬ c25 = true ∧ (z = false)))))))))))))))))))))) ∨ (¬ 1152921504606846976 < a0 ∧ ((a1 < (-1152921504606846976) ∧ (∃ c32t0_0 : Bool, (∃ c32t0_1 : List Int, (∃ c32t0_2 : List Int, (∃ c32t1 : Int, (rat_Frac_R a0 a1 c32t0_0 c32t0_1 c32t0_2 c32t1 ∧ (∃ c34_0 : Bool, (∃ c34_1 : List Int, (whole_Of_R a0 c34_0 c34_1 ∧ (∃ c36_0 : Bool, (∃ c36_1 : List Int, (whole_Of_R a1 c36_0 c36_1 ∧ (∃ c38t0_0 : Bool, (∃ c38t0_1 : List Int, (∃ c38t0_2 : List Int, (∃ c38t1 : Int, (rat_Make_R c34_0 c34_1 c36_0 c36_1 c38t0_0 c38t0_1 c38t0_2 c38t1 ∧ (∃ c40 : Bool, (ref08_Same_R c32t0_0 c32t0_1 c32t0_2 c38t0_0 c38t0_1 c38t0_2 c40 ∧ ((c40 = true ∧ ((c32t1 = c38t1 ∧ (∃ c44 : Bool, (law08_works_R c44 ∧ (z = c44)))) ∨ (¬ c32t1 = c38t1 ∧ (z = false)))) ∨ (¬ c40 = true ∧ (z = false)))))))))))))))))))))) ∨ (¬ a1 < (-1152921504606846976) ∧ ((1152921504606846976 < a1 ∧ (∃ c47t0_0 : Bool, (∃ c47t0_1 : List Int, (∃ c47t0_2 : List Int, (∃ c47t1 : Int, (rat_Frac_R a0 a1 c47t0_0 c47t0_1 c47t0_2 c47t1 ∧ (∃ c49_0 : Bool, (∃ c49_1 : List Int, (whole_Of_R a0 c49_0 c49_1 ∧ (∃ c51_0 : Bool, (∃ c51_1 : List Int, (whole_Of_R a1 c51_0 c51_1 ∧ (∃ c53t0_0 : Bool, (∃ c53t0_1 : List Int, (∃ c53t0_2 : List Int, (∃ c53t1 : Int, (rat_Make_R c49_0 c49_1 c51_0 c51_1 c53t0_0 c53t0_1 c53t0_2 c53t1 ∧ (∃ c55 : Bool, (ref08_Same_R c47t0_0 c47t0_1 c47t0_2 c53t0_0 c53t0_1 c53t0_2 c55 ∧ ((c55 = true ∧ ((c47t1 = c53t1 ∧ (∃ c59 : Bool, (law08_works_R c59 ∧ (z = c59)))) ∨ (¬ c47t1 = c53t1 ∧ (z = false)))) ∨ (¬ c55 = true ∧ (z = false)))))))))))))))))))))) ∨ (¬ 1152921504606846976 < a1 ∧ (∃ c61t0_0 : Bool, (∃ c61t0_1 : List Int, (∃ c61t0_2 : List Int, (∃ c61t1 : Int, (rat_Frac_R a0 a1 c61t0_0 c61t0_1 c61t0_2 c61t1 ∧ ((a1 = 0 ∧ ((c61t1 = 3 ∧ (∃ c65 : Bool, (law08_works_R c65 ∧ (z = c65)))) ∨ (¬ c61t1 = 3 ∧ (z = false)))) ∨ (¬ a1 = 0 ∧ ((a1 < 0 ∧ ((c61t1 = 0 ∧ (∃ c69_0 : Bool, (∃ c69_1 : List Int, (∃ c69_2 : List Int, (ref08_Num_R (wi (0 - a0)) (wi (0 - a1)) c69_0 c69_1 c69_2 ∧ (∃ c71_0 : Bool, (∃ c71_1 : List Int, (∃ c71_2 : List Int, (ref08_Back_R c69_0 c69_1 c69_2 c71_0 c71_1 c71_2 ∧ (∃ c73 : Bool, (ref08_Same_R c61t0_0 c61t0_1 c61t0_2 c71_0 c71_1 c71_2 c73 ∧ ((c73 = true ∧ (∃ c76_0 : Bool, (∃ c76_1 : List Int, (∃ c76_2 : List Int, (rat_Of_R (wi (0 - a0)) c76_0 c76_1 c76_2 ∧ (∃ c78_0 : Bool, (∃ c78_1 : List Int, (∃ c78_2 : List Int, (ref08_Num_R (wi (0 - a0)) 1 c78_0 c78_1 c78_2 ∧ (∃ c80_0 : Bool, (∃ c80_1 : List Int, (∃ c80_2 : List Int, (ref08_Back_R c78_0 c78_1 c78_2 c80_0 c80_1 c80_2 ∧ (∃ c82 : Bool, (ref08_Same_R c76_0 c76_1 c76_2 c80_0 c80_1 c80_2 c82 ∧ ((c82 = true ∧ (∃ c85 : Bool, (rat_One_R c61t0_0 c61t0_1 c61t0_2 c85 ∧ ((c85 = true ∧ (((wi (0 - a0)) = (wi (0 - a1)) ∧ (∃ c89 : Bool, (law08_works_R c89 ∧ (z = c89)))) ∨ (¬ (wi (0 - a0)) = (wi (0 - a1)) ∧ (z = false)))) ∨ (¬ c85 = true ∧ (((wi (0 - a0)) = (wi (0 - a1)) ∧ (z = false)) ∨ (¬ (wi (0 - a0)) = (wi (0 - a1)) ∧ (∃ c92 : Bool, (law08_works_R c92 ∧ (z = c92)))))))))) ∨ (¬ c82 = true ∧ (z = false)))))))))))))))))) ∨ (¬ c73 = true ∧ (z = false)))))))))))))) ∨ (¬ c61t1 = 0 ∧ (z = false)))) ∨ (¬ a1 < 0 ∧ ((c61t1 = 0 ∧ (∃ c95_0 : Bool, (∃ c95_1 : List Int, (∃ c95_2 : List Int, (ref08_Num_R a0 a1 c95_0 c95_1 c95_2 ∧ (∃ c97_0 : Bool, (∃ c97_1 : List Int, (∃ c97_2 : List Int, (ref08_Back_R c95_0 c95_1 c95_2 c97_0 c97_1 c97_2 ∧ (∃ c99 : Bool, (ref08_Same_R c61t0_0 c61t0_1 c61t0_2 c97_0 c97_1 c97_2 c99 ∧ ((c99 = true ∧ (∃ c102_0 : Bool, (∃ c102_1 : List Int, (∃ c102_2 : List Int, (rat_Of_R a0 c102_0 c102_1 c102_2 ∧ (∃ c104_0 : Bool, (∃ c104_1 : List Int, (∃ c104_2 : List Int, (ref08_Num_R a0 1 c104_0 c104_1 c104_2 ∧ (∃ c106_0 : Bool, (∃ c106_1 : List Int, (∃ c106_2 : List Int, (ref08_Back_R c104_0 c104_1 c104_2 c106_0 c106_1 c106_2 ∧ (∃ c108 : Bool, (ref08_Same_R c102_0 c102_1 c102_2 c106_0 c106_1 c106_2 c108 ∧ ((c108 = true ∧ (∃ c111 : Bool, (rat_One_R c61t0_0 c61t0_1 c61t0_2 c111 ∧ ((c111 = true ∧ ((a0 = a1 ∧ (∃ c115 : Bool, (law08_works_R c115 ∧ (z = c115)))) ∨ (¬ a0 = a1 ∧ (z = false)))) ∨ (¬ c111 = true ∧ ((a0 = a1 ∧ (z = false)) ∨ (¬ a0 = a1 ∧ (∃ c118 : Bool, (law08_works_R c118 ∧ (z = c118)))))))))) ∨ (¬ c108 = true ∧ (z = false)))))))))))))))))) ∨ (¬ c99 = true ∧ (z = false)))))))))))))) ∨ (¬ c61t1 = 0 ∧ (z = false))))))))))))))))))))) : law08_RatSmalls_R a0 a1 z := by
  refine W.lawIs (zs := [(.int .i64 a0), (.int .i64 a1)]) Try.func7 (by kernel_rfl) (by kernel_rfl) (by kernel_rfl) ?_
  refine W.adv 11 ?_
  rcases H with ⟨h1, H⟩ | ⟨h1, H⟩
  · refine W.guard false (w := ((decide (a0 < (-1152921504606846976))) == false)) (by kernel_rfl) (congrArg (fun b => b == false) (decide_eq_true h1)) ?_
    refine W.guard false (w := ((decide (a0 < (-1152921504606846976))) == false)) (by kernel_rfl) (congrArg (fun b => b == false) (decide_eq_true h1)) ?_
    refine W.opS (OpIs.pk true (t := (decide (a0 < (-1152921504606846976)))) (x := (.bool true)) (y := (.tuple [])) (by kernel_rfl) (decide_eq_true h1)) ?_
    refine W.adv 15 ?_
    obtain ⟨c2t0_0, c2t0_1, c2t0_2, c2t1, hc3, H⟩ := H
    refine W.callR (g := 27) (ds := [(.int .i64 a0), (.int .i64 a1)]) (es := [(.int .i64 a0), (.int .i64 a1)]) (r := (.tuple [(.agg [(.bool c2t0_0), (.ints .u64 c2t0_1), (.ints .u64 c2t0_2)]), (.int .i64 c2t1)])) (by kernel_rfl) (by kernel_rfl) (Ic.args hc3 (by kernel_rfl)) (by kernel_rfl) ?_
    refine W.adv 11 ?_
    obtain ⟨c4_0, c4_1, hc5, H⟩ := H
    refine W.callR (g := 29) (ds := [(.int .i64 a0)]) (es := [(.int .i64 a0)]) (r := (.agg [(.bool c4_0), (.ints .u64 c4_1)])) (by kernel_rfl) (by kernel_rfl) (Ic.args hc5 (by kernel_rfl)) (by kernel_rfl) ?_
    refine W.adv 1 ?_
    obtain ⟨c6_0, c6_1, hc7, H⟩ := H
    refine W.callR (g := 29) (ds := [(.int .i64 a1)]) (es := [(.int .i64 a1)]) (r := (.agg [(.bool c6_0), (.ints .u64 c6_1)])) (by kernel_rfl) (by kernel_rfl) (Ic.args hc7 (by kernel_rfl)) (by kernel_rfl) ?_
    obtain ⟨c8t0_0, c8t0_1, c8t0_2, c8t1, hc9, H⟩ := H
    refine W.callR (g := 28) (ds := [(.agg [(.bool c4_0), (.ints .u64 c4_1)]), (.agg [(.bool c6_0), (.ints .u64 c6_1)])]) (es := [(.agg [(.bool c4_0), (.ints .u64 c4_1)]), (.agg [(.bool c6_0), (.ints .u64 c6_1)])]) (r := (.tuple [(.agg [(.bool c8t0_0), (.ints .u64 c8t0_1), (.ints .u64 c8t0_2)]), (.int .i64 c8t1)])) (by kernel_rfl) (by kernel_rfl) (Ic.args hc9 (by kernel_rfl)) (by kernel_rfl) ?_
    refine W.adv 12 ?_
    obtain ⟨c10, hc11, H⟩ := H
    refine W.callR (g := 30) (ds := [(.agg [(.bool c2t0_0), (.ints .u64 c2t0_1), (.ints .u64 c2t0_2)]), (.agg [(.bool c8t0_0), (.ints .u64 c8t0_1), (.ints .u64 c8t0_2)])]) (es := [(.agg [(.bool c2t0_0), (.ints .u64 c2t0_1), (.ints .u64 c2t0_2)]), (.agg [(.bool c8t0_0), (.ints .u64 c8t0_1), (.ints .u64 c8t0_2)])]) (r := (.bool c10)) (by kernel_rfl) (by kernel_rfl) (Ic.args hc11 (by kernel_rfl)) (by kernel_rfl) ?_
    refine W.adv 1 ?_
    rcases H with ⟨h12, H⟩ | ⟨h12, H⟩
    · refine W.guard true (w := (c10 == true)) (by kernel_rfl) (congrArg (fun b => b == true) h12) ?_
      refine W.adv 1 ?_
      refine W.guard true (w := (c10 == true)) (by kernel_rfl) (congrArg (fun b => b == true) h12) ?_
      refine W.adv 1 ?_
      refine W.guard true (w := (c10 == true)) (by kernel_rfl) (congrArg (fun b => b == true) h12) ?_
      refine W.adv 1 ?_
      refine W.opS (OpIs.pk true (t := c10) (x := (.bool (decide (c2t1 = c8t1)))) (y := (.bool false)) (by kernel_rfl) h12) ?_
      refine W.adv 1 ?_
      rcases H with ⟨h13, H⟩ | ⟨h13, H⟩
      · refine W.guard true (w := ((decide (c2t1 = c8t1)) == true)) (by kernel_rfl) (congrArg (fun b => b == true) (decide_eq_true h13)) ?_
        obtain ⟨c14, hc15, H⟩ := H
        refine W.callR (g := 31) (ds := []) (es := []) (r := (.bool c14)) (by kernel_rfl) (by kernel_rfl) (Ic.args hc15 (by kernel_rfl)) (by kernel_rfl) ?_
        refine W.opS (OpIs.pk true (t := (decide (c2t1 = c8t1))) (x := (.bool c14)) (y := (.bool false)) (by kernel_rfl) (decide_eq_true h13)) ?_
        refine W.adv 5 ?_
        exact W.fin (x := .ret) (by kernel_rfl) (LAns.of (d := (.bool c14)) (by kernel_rfl) (by rw [H]))
      · refine W.guard false (w := ((decide (c2t1 = c8t1)) == true)) (by kernel_rfl) (congrArg (fun b => b == true) (decide_eq_false h13)) ?_
        refine W.opS (OpIs.pk false (t := (decide (c2t1 = c8t1))) (x := (.tuple [])) (y := (.bool false)) (by kernel_rfl) (decide_eq_false h13)) ?_
        refine W.adv 5 ?_
        exact W.fin (x := .ret) (by kernel_rfl) (LAns.of (d := (.bool false)) (by kernel_rfl) (by rw [H]))
    · refine W.guard false (w := (c10 == true)) (by kernel_rfl) (congrArg (fun b => b == true) (bfalse h12)) ?_
      refine W.guard false (w := (c10 == true)) (by kernel_rfl) (congrArg (fun b => b == true) (bfalse h12)) ?_
      refine W.guard false (w := (c10 == true)) (by kernel_rfl) (congrArg (fun b => b == true) (bfalse h12)) ?_
      refine W.opS (OpIs.pk false (t := c10) (x := (.tuple [])) (y := (.bool false)) (by kernel_rfl) (bfalse h12)) ?_
      refine W.adv 8 ?_
      exact W.fin (x := .ret) (by kernel_rfl) (LAns.of (d := (.bool false)) (by kernel_rfl) (by rw [H]))
  · refine W.guard true (w := ((decide (a0 < (-1152921504606846976))) == false)) (by kernel_rfl) (congrArg (fun b => b == false) (decide_eq_false h1)) ?_
    refine W.adv 1 ?_
    refine W.guard true (w := ((decide (a0 < (-1152921504606846976))) == false)) (by kernel_rfl) (congrArg (fun b => b == false) (decide_eq_false h1)) ?_
    refine W.adv 1 ?_
    refine W.opS (OpIs.pk false (t := (decide (a0 < (-1152921504606846976)))) (x := (.bool true)) (y := (.bool (decide (1152921504606846976 < a0)))) (by kernel_rfl) (decide_eq_false h1)) ?_
    refine W.adv 1 ?_
    rcases H with ⟨h16, H⟩ | ⟨h16, H⟩
    · refine W.guard false (w := ((decide (1152921504606846976 < a0)) == false)) (by kernel_rfl) (congrArg (fun b => b == false) (decide_eq_true h16)) ?_
      refine W.guard false (w := ((decide (1152921504606846976 < a0)) == false)) (by kernel_rfl) (congrArg (fun b => b == false) (decide_eq_true h16)) ?_
      refine W.opS (OpIs.pk true (t := (decide (1152921504606846976 < a0))) (x := (.bool true)) (y := (.tuple [])) (by kernel_rfl) (decide_eq_true h16)) ?_
      refine W.adv 11 ?_
      obtain ⟨c17t0_0, c17t0_1, c17t0_2, c17t1, hc18, H⟩ := H
      refine W.callR (g := 27) (ds := [(.int .i64 a0), (.int .i64 a1)]) (es := [(.int .i64 a0), (.int .i64 a1)]) (r := (.tuple [(.agg [(.bool c17t0_0), (.ints .u64 c17t0_1), (.ints .u64 c17t0_2)]), (.int .i64 c17t1)])) (by kernel_rfl) (by kernel_rfl) (Ic.args hc18 (by kernel_rfl)) (by kernel_rfl) ?_
      refine W.adv 11 ?_
      obtain ⟨c19_0, c19_1, hc20, H⟩ := H
      refine W.callR (g := 29) (ds := [(.int .i64 a0)]) (es := [(.int .i64 a0)]) (r := (.agg [(.bool c19_0), (.ints .u64 c19_1)])) (by kernel_rfl) (by kernel_rfl) (Ic.args hc20 (by kernel_rfl)) (by kernel_rfl) ?_
      refine W.adv 1 ?_
      obtain ⟨c21_0, c21_1, hc22, H⟩ := H
      refine W.callR (g := 29) (ds := [(.int .i64 a1)]) (es := [(.int .i64 a1)]) (r := (.agg [(.bool c21_0), (.ints .u64 c21_1)])) (by kernel_rfl) (by kernel_rfl) (Ic.args hc22 (by kernel_rfl)) (by kernel_rfl) ?_
      obtain ⟨c23t0_0, c23t0_1, c23t0_2, c23t1, hc24, H⟩ := H
      refine W.callR (g := 28) (ds := [(.agg [(.bool c19_0), (.ints .u64 c19_1)]), (.agg [(.bool c21_0), (.ints .u64 c21_1)])]) (es := [(.agg [(.bool c19_0), (.ints .u64 c19_1)]), (.agg [(.bool c21_0), (.ints .u64 c21_1)])]) (r := (.tuple [(.agg [(.bool c23t0_0), (.ints .u64 c23t0_1), (.ints .u64 c23t0_2)]), (.int .i64 c23t1)])) (by kernel_rfl) (by kernel_rfl) (Ic.args hc24 (by kernel_rfl)) (by kernel_rfl) ?_
      refine W.adv 12 ?_
      obtain ⟨c25, hc26, H⟩ := H
      refine W.callR (g := 30) (ds := [(.agg [(.bool c17t0_0), (.ints .u64 c17t0_1), (.ints .u64 c17t0_2)]), (.agg [(.bool c23t0_0), (.ints .u64 c23t0_1), (.ints .u64 c23t0_2)])]) (es := [(.agg [(.bool c17t0_0), (.ints .u64 c17t0_1), (.ints .u64 c17t0_2)]), (.agg [(.bool c23t0_0), (.ints .u64 c23t0_1), (.ints .u64 c23t0_2)])]) (r := (.bool c25)) (by kernel_rfl) (by kernel_rfl) (Ic.args hc26 (by kernel_rfl)) (by kernel_rfl) ?_
      refine W.adv 1 ?_
      rcases H with ⟨h27, H⟩ | ⟨h27, H⟩
      · refine W.guard true (w := (c25 == true)) (by kernel_rfl) (congrArg (fun b => b == true) h27) ?_
        refine W.adv 1 ?_
        refine W.guard true (w := (c25 == true)) (by kernel_rfl) (congrArg (fun b => b == true) h27) ?_
        refine W.adv 1 ?_
        refine W.guard true (w := (c25 == true)) (by kernel_rfl) (congrArg (fun b => b == true) h27) ?_
        refine W.adv 1 ?_
        refine W.opS (OpIs.pk true (t := c25) (x := (.bool (decide (c17t1 = c23t1)))) (y := (.bool false)) (by kernel_rfl) h27) ?_
        refine W.adv 1 ?_
        rcases H with ⟨h28, H⟩ | ⟨h28, H⟩
        · refine W.guard true (w := ((decide (c17t1 = c23t1)) == true)) (by kernel_rfl) (congrArg (fun b => b == true) (decide_eq_true h28)) ?_
          obtain ⟨c29, hc30, H⟩ := H
          refine W.callR (g := 31) (ds := []) (es := []) (r := (.bool c29)) (by kernel_rfl) (by kernel_rfl) (Ic.args hc30 (by kernel_rfl)) (by kernel_rfl) ?_
          refine W.opS (OpIs.pk true (t := (decide (c17t1 = c23t1))) (x := (.bool c29)) (y := (.bool false)) (by kernel_rfl) (decide_eq_true h28)) ?_
          refine W.adv 5 ?_
          exact W.fin (x := .ret) (by kernel_rfl) (LAns.of (d := (.bool c29)) (by kernel_rfl) (by rw [H]))
        · refine W.guard false (w := ((decide (c17t1 = c23t1)) == true)) (by kernel_rfl) (congrArg (fun b => b == true) (decide_eq_false h28)) ?_
          refine W.opS (OpIs.pk false (t := (decide (c17t1 = c23t1))) (x := (.tuple [])) (y := (.bool false)) (by kernel_rfl) (decide_eq_false h28)) ?_
          refine W.adv 5 ?_
          exact W.fin (x := .ret) (by kernel_rfl) (LAns.of (d := (.bool false)) (by kernel_rfl) (by rw [H]))
      · refine W.guard false (w := (c25 == true)) (by kernel_rfl) (congrArg (fun b => b == true) (bfalse h27)) ?_
        refine W.guard false (w := (c25 == true)) (by kernel_rfl) (congrArg (fun b => b == true) (bfalse h27)) ?_
        refine W.guard false (w := (c25 == true)) (by kernel_rfl) (congrArg (fun b => b == true) (bfalse h27)) ?_
        refine W.opS (OpIs.pk false (t := c25) (x := (.tuple [])) (y := (.bool false)) (by kernel_rfl) (bfalse h27)) ?_
        refine W.adv 8 ?_
        exact W.fin (x := .ret) (by kernel_rfl) (LAns.of (d := (.bool false)) (by kernel_rfl) (by rw [H]))
    · refine W.guard true (w := ((decide (1152921504606846976 < a0)) == false)) (by kernel_rfl) (congrArg (fun b => b == false) (decide_eq_false h16)) ?_
      refine W.adv 1 ?_
      refine W.guard true (w := ((decide (1152921504606846976 < a0)) == false)) (by kernel_rfl) (congrArg (fun b => b == false) (decide_eq_false h16)) ?_
      refine W.adv 1 ?_
      refine W.opS (OpIs.pk false (t := (decide (1152921504606846976 < a0))) (x := (.bool true)) (y := (.bool (decide (a1 < (-1152921504606846976))))) (by kernel_rfl) (decide_eq_false h16)) ?_
      refine W.adv 1 ?_
      rcases H with ⟨h31, H⟩ | ⟨h31, H⟩
      · refine W.guard false (w := ((decide (a1 < (-1152921504606846976))) == false)) (by kernel_rfl) (congrArg (fun b => b == false) (decide_eq_true h31)) ?_
        refine W.guard false (w := ((decide (a1 < (-1152921504606846976))) == false)) (by kernel_rfl) (congrArg (fun b => b == false) (decide_eq_true h31)) ?_
        refine W.opS (OpIs.pk true (t := (decide (a1 < (-1152921504606846976)))) (x := (.bool true)) (y := (.tuple [])) (by kernel_rfl) (decide_eq_true h31)) ?_
        refine W.adv 7 ?_
        obtain ⟨c32t0_0, c32t0_1, c32t0_2, c32t1, hc33, H⟩ := H
        refine W.callR (g := 27) (ds := [(.int .i64 a0), (.int .i64 a1)]) (es := [(.int .i64 a0), (.int .i64 a1)]) (r := (.tuple [(.agg [(.bool c32t0_0), (.ints .u64 c32t0_1), (.ints .u64 c32t0_2)]), (.int .i64 c32t1)])) (by kernel_rfl) (by kernel_rfl) (Ic.args hc33 (by kernel_rfl)) (by kernel_rfl) ?_
        refine W.adv 11 ?_
        obtain ⟨c34_0, c34_1, hc35, H⟩ := H
        refine W.callR (g := 29) (ds := [(.int .i64 a0)]) (es := [(.int .i64 a0)]) (r := (.agg [(.bool c34_0), (.ints .u64 c34_1)])) (by kernel_rfl) (by kernel_rfl) (Ic.args hc35 (by kernel_rfl)) (by kernel_rfl) ?_
        refine W.adv 1 ?_
        obtain ⟨c36_0, c36_1, hc37, H⟩ := H
        refine W.callR (g := 29) (ds := [(.int .i64 a1)]) (es := [(.int .i64 a1)]) (r := (.agg [(.bool c36_0), (.ints .u64 c36_1)])) (by kernel_rfl) (by kernel_rfl) (Ic.args hc37 (by kernel_rfl)) (by kernel_rfl) ?_
        obtain ⟨c38t0_0, c38t0_1, c38t0_2, c38t1, hc39, H⟩ := H
        refine W.callR (g := 28) (ds := [(.agg [(.bool c34_0), (.ints .u64 c34_1)]), (.agg [(.bool c36_0), (.ints .u64 c36_1)])]) (es := [(.agg [(.bool c34_0), (.ints .u64 c34_1)]), (.agg [(.bool c36_0), (.ints .u64 c36_1)])]) (r := (.tuple [(.agg [(.bool c38t0_0), (.ints .u64 c38t0_1), (.ints .u64 c38t0_2)]), (.int .i64 c38t1)])) (by kernel_rfl) (by kernel_rfl) (Ic.args hc39 (by kernel_rfl)) (by kernel_rfl) ?_
        refine W.adv 12 ?_
        obtain ⟨c40, hc41, H⟩ := H
        refine W.callR (g := 30) (ds := [(.agg [(.bool c32t0_0), (.ints .u64 c32t0_1), (.ints .u64 c32t0_2)]), (.agg [(.bool c38t0_0), (.ints .u64 c38t0_1), (.ints .u64 c38t0_2)])]) (es := [(.agg [(.bool c32t0_0), (.ints .u64 c32t0_1), (.ints .u64 c32t0_2)]), (.agg [(.bool c38t0_0), (.ints .u64 c38t0_1), (.ints .u64 c38t0_2)])]) (r := (.bool c40)) (by kernel_rfl) (by kernel_rfl) (Ic.args hc41 (by kernel_rfl)) (by kernel_rfl) ?_
        refine W.adv 1 ?_
        rcases H with ⟨h42, H⟩ | ⟨h42, H⟩
        · refine W.guard true (w := (c40 == true)) (by kernel_rfl) (congrArg (fun b => b == true) h42) ?_
          refine W.adv 1 ?_
          refine W.guard true (w := (c40 == true)) (by kernel_rfl) (congrArg (fun b => b == true) h42) ?_
          refine W.adv 1 ?_
          refine W.guard true (w := (c40 == true)) (by kernel_rfl) (congrArg (fun b => b == true) h42) ?_
          refine W.adv 1 ?_
          refine W.opS (OpIs.pk true (t := c40) (x := (.bool (decide (c32t1 = c38t1)))) (y := (.bool false)) (by kernel_rfl) h42) ?_
          refine W.adv 1 ?_
          rcases H with ⟨h43, H⟩ | ⟨h43, H⟩
          · refine W.guard true (w := ((decide (c32t1 = c38t1)) == true)) (by kernel_rfl) (congrArg (fun b => b == true) (decide_eq_true h43)) ?_
            obtain ⟨c44, hc45, H⟩ := H
            refine W.callR (g := 31) (ds := []) (es := []) (r := (.bool c44)) (by kernel_rfl) (by kernel_rfl) (Ic.args hc45 (by kernel_rfl)) (by kernel_rfl) ?_
            refine W.opS (OpIs.pk true (t := (decide (c32t1 = c38t1))) (x := (.bool c44)) (y := (.bool false)) (by kernel_rfl) (decide_eq_true h43)) ?_
            refine W.adv 5 ?_
            exact W.fin (x := .ret) (by kernel_rfl) (LAns.of (d := (.bool c44)) (by kernel_rfl) (by rw [H]))
          · refine W.guard false (w := ((decide (c32t1 = c38t1)) == true)) (by kernel_rfl) (congrArg (fun b => b == true) (decide_eq_false h43)) ?_
            refine W.opS (OpIs.pk false (t := (decide (c32t1 = c38t1))) (x := (.tuple [])) (y := (.bool false)) (by kernel_rfl) (decide_eq_false h43)) ?_
            refine W.adv 5 ?_
            exact W.fin (x := .ret) (by kernel_rfl) (LAns.of (d := (.bool false)) (by kernel_rfl) (by rw [H]))
        · refine W.guard false (w := (c40 == true)) (by kernel_rfl) (congrArg (fun b => b == true) (bfalse h42)) ?_
          refine W.guard false (w := (c40 == true)) (by kernel_rfl) (congrArg (fun b => b == true) (bfalse h42)) ?_
          refine W.guard false (w := (c40 == true)) (by kernel_rfl) (congrArg (fun b => b == true) (bfalse h42)) ?_
          refine W.opS (OpIs.pk false (t := c40) (x := (.tuple [])) (y := (.bool false)) (by kernel_rfl) (bfalse h42)) ?_
          refine W.adv 8 ?_
          exact W.fin (x := .ret) (by kernel_rfl) (LAns.of (d := (.bool false)) (by kernel_rfl) (by rw [H]))
      · refine W.guard true (w := ((decide (a1 < (-1152921504606846976))) == false)) (by kernel_rfl) (congrArg (fun b => b == false) (decide_eq_false h31)) ?_
        refine W.adv 1 ?_
        refine W.guard true (w := ((decide (a1 < (-1152921504606846976))) == false)) (by kernel_rfl) (congrArg (fun b => b == false) (decide_eq_false h31)) ?_
        refine W.adv 1 ?_
        refine W.opS (OpIs.pk false (t := (decide (a1 < (-1152921504606846976)))) (x := (.bool true)) (y := (.bool (decide (1152921504606846976 < a1)))) (by kernel_rfl) (decide_eq_false h31)) ?_
        refine W.adv 2 ?_
        rcases H with ⟨h46, H⟩ | ⟨h46, H⟩
        · refine W.cond true (w := (decide (1152921504606846976 < a1))) (by kernel_rfl) (decide_eq_true h46) ?_
          refine W.adv 4 ?_
          obtain ⟨c47t0_0, c47t0_1, c47t0_2, c47t1, hc48, H⟩ := H
          refine W.callR (g := 27) (ds := [(.int .i64 a0), (.int .i64 a1)]) (es := [(.int .i64 a0), (.int .i64 a1)]) (r := (.tuple [(.agg [(.bool c47t0_0), (.ints .u64 c47t0_1), (.ints .u64 c47t0_2)]), (.int .i64 c47t1)])) (by kernel_rfl) (by kernel_rfl) (Ic.args hc48 (by kernel_rfl)) (by kernel_rfl) ?_
          refine W.adv 11 ?_
          obtain ⟨c49_0, c49_1, hc50, H⟩ := H
          refine W.callR (g := 29) (ds := [(.int .i64 a0)]) (es := [(.int .i64 a0)]) (r := (.agg [(.bool c49_0), (.ints .u64 c49_1)])) (by kernel_rfl) (by kernel_rfl) (Ic.args hc50 (by kernel_rfl)) (by kernel_rfl) ?_
          refine W.adv 1 ?_
          obtain ⟨c51_0, c51_1, hc52, H⟩ := H
          refine W.callR (g := 29) (ds := [(.int .i64 a1)]) (es := [(.int .i64 a1)]) (r := (.agg [(.bool c51_0), (.ints .u64 c51_1)])) (by kernel_rfl) (by kernel_rfl) (Ic.args hc52 (by kernel_rfl)) (by kernel_rfl) ?_
          obtain ⟨c53t0_0, c53t0_1, c53t0_2, c53t1, hc54, H⟩ := H
          refine W.callR (g := 28) (ds := [(.agg [(.bool c49_0), (.ints .u64 c49_1)]), (.agg [(.bool c51_0), (.ints .u64 c51_1)])]) (es := [(.agg [(.bool c49_0), (.ints .u64 c49_1)]), (.agg [(.bool c51_0), (.ints .u64 c51_1)])]) (r := (.tuple [(.agg [(.bool c53t0_0), (.ints .u64 c53t0_1), (.ints .u64 c53t0_2)]), (.int .i64 c53t1)])) (by kernel_rfl) (by kernel_rfl) (Ic.args hc54 (by kernel_rfl)) (by kernel_rfl) ?_
          refine W.adv 12 ?_
          obtain ⟨c55, hc56, H⟩ := H
          refine W.callR (g := 30) (ds := [(.agg [(.bool c47t0_0), (.ints .u64 c47t0_1), (.ints .u64 c47t0_2)]), (.agg [(.bool c53t0_0), (.ints .u64 c53t0_1), (.ints .u64 c53t0_2)])]) (es := [(.agg [(.bool c47t0_0), (.ints .u64 c47t0_1), (.ints .u64 c47t0_2)]), (.agg [(.bool c53t0_0), (.ints .u64 c53t0_1), (.ints .u64 c53t0_2)])]) (r := (.bool c55)) (by kernel_rfl) (by kernel_rfl) (Ic.args hc56 (by kernel_rfl)) (by kernel_rfl) ?_
          refine W.adv 1 ?_
          rcases H with ⟨h57, H⟩ | ⟨h57, H⟩
          · refine W.guard true (w := (c55 == true)) (by kernel_rfl) (congrArg (fun b => b == true) h57) ?_
            refine W.adv 1 ?_
            refine W.guard true (w := (c55 == true)) (by kernel_rfl) (congrArg (fun b => b == true) h57) ?_
            refine W.adv 1 ?_
            refine W.guard true (w := (c55 == true)) (by kernel_rfl) (congrArg (fun b => b == true) h57) ?_
            refine W.adv 1 ?_
            refine W.opS (OpIs.pk true (t := c55) (x := (.bool (decide (c47t1 = c53t1)))) (y := (.bool false)) (by kernel_rfl) h57) ?_
            refine W.adv 1 ?_
            rcases H with ⟨h58, H⟩ | ⟨h58, H⟩
            · refine W.guard true (w := ((decide (c47t1 = c53t1)) == true)) (by kernel_rfl) (congrArg (fun b => b == true) (decide_eq_true h58)) ?_
              obtain ⟨c59, hc60, H⟩ := H
              refine W.callR (g := 31) (ds := []) (es := []) (r := (.bool c59)) (by kernel_rfl) (by kernel_rfl) (Ic.args hc60 (by kernel_rfl)) (by kernel_rfl) ?_
              refine W.opS (OpIs.pk true (t := (decide (c47t1 = c53t1))) (x := (.bool c59)) (y := (.bool false)) (by kernel_rfl) (decide_eq_true h58)) ?_
              refine W.adv 5 ?_
              exact W.fin (x := .ret) (by kernel_rfl) (LAns.of (d := (.bool c59)) (by kernel_rfl) (by rw [H]))
            · refine W.guard false (w := ((decide (c47t1 = c53t1)) == true)) (by kernel_rfl) (congrArg (fun b => b == true) (decide_eq_false h58)) ?_
              refine W.opS (OpIs.pk false (t := (decide (c47t1 = c53t1))) (x := (.tuple [])) (y := (.bool false)) (by kernel_rfl) (decide_eq_false h58)) ?_
              refine W.adv 5 ?_
              exact W.fin (x := .ret) (by kernel_rfl) (LAns.of (d := (.bool false)) (by kernel_rfl) (by rw [H]))
          · refine W.guard false (w := (c55 == true)) (by kernel_rfl) (congrArg (fun b => b == true) (bfalse h57)) ?_
            refine W.guard false (w := (c55 == true)) (by kernel_rfl) (congrArg (fun b => b == true) (bfalse h57)) ?_
            refine W.guard false (w := (c55 == true)) (by kernel_rfl) (congrArg (fun b => b == true) (bfalse h57)) ?_
            refine W.opS (OpIs.pk false (t := c55) (x := (.tuple [])) (y := (.bool false)) (by kernel_rfl) (bfalse h57)) ?_
            refine W.adv 8 ?_
            exact W.fin (x := .ret) (by kernel_rfl) (LAns.of (d := (.bool false)) (by kernel_rfl) (by rw [H]))
        · refine W.cond false (w := (decide (1152921504606846976 < a1))) (by kernel_rfl) (decide_eq_false h46) ?_
          refine W.adv 6 ?_
          obtain ⟨c61t0_0, c61t0_1, c61t0_2, c61t1, hc62, H⟩ := H
          refine W.callR (g := 27) (ds := [(.int .i64 a0), (.int .i64 a1)]) (es := [(.int .i64 a0), (.int .i64 a1)]) (r := (.tuple [(.agg [(.bool c61t0_0), (.ints .u64 c61t0_1), (.ints .u64 c61t0_2)]), (.int .i64 c61t1)])) (by kernel_rfl) (by kernel_rfl) (Ic.args hc62 (by kernel_rfl)) (by kernel_rfl) ?_
          refine W.adv 15 ?_
          rcases H with ⟨h63, H⟩ | ⟨h63, H⟩
          · refine W.cond true (w := (decide (a1 = 0))) (by kernel_rfl) (decide_eq_true h63) ?_
            refine W.adv 5 ?_
            rcases H with ⟨h64, H⟩ | ⟨h64, H⟩
            · refine W.guard true (w := ((decide (c61t1 = 3)) == true)) (by kernel_rfl) (congrArg (fun b => b == true) (decide_eq_true h64)) ?_
              obtain ⟨c65, hc66, H⟩ := H
              refine W.callR (g := 31) (ds := []) (es := []) (r := (.bool c65)) (by kernel_rfl) (by kernel_rfl) (Ic.args hc66 (by kernel_rfl)) (by kernel_rfl) ?_
              refine W.opS (OpIs.pk true (t := (decide (c61t1 = 3))) (x := (.bool c65)) (y := (.bool false)) (by kernel_rfl) (decide_eq_true h64)) ?_
              refine W.adv 5 ?_
              exact W.fin (x := .ret) (by kernel_rfl) (LAns.of (d := (.bool c65)) (by kernel_rfl) (by rw [H]))
            · refine W.guard false (w := ((decide (c61t1 = 3)) == true)) (by kernel_rfl) (congrArg (fun b => b == true) (decide_eq_false h64)) ?_
              refine W.opS (OpIs.pk false (t := (decide (c61t1 = 3))) (x := (.tuple [])) (y := (.bool false)) (by kernel_rfl) (decide_eq_false h64)) ?_
              refine W.adv 5 ?_
              exact W.fin (x := .ret) (by kernel_rfl) (LAns.of (d := (.bool false)) (by kernel_rfl) (by rw [H]))
          · refine W.cond false (w := (decide (a1 = 0))) (by kernel_rfl) (decide_eq_false h63) ?_
            refine W.adv 9 ?_
            rcases H with ⟨h67, H⟩ | ⟨h67, H⟩
            · refine W.cond true (w := (decide (a1 < 0))) (by kernel_rfl) (decide_eq_true h67) ?_
              refine W.adv 14 ?_
              rcases H with ⟨h68, H⟩ | ⟨h68, H⟩
              · refine W.guard true (w := ((decide (c61t1 = 0)) == true)) (by kernel_rfl) (congrArg (fun b => b == true) (decide_eq_true h68)) ?_
                refine W.adv 1 ?_
                refine W.guard true (w := ((decide (c61t1 = 0)) == true)) (by kernel_rfl) (congrArg (fun b => b == true) (decide_eq_true h68)) ?_
                refine W.adv 1 ?_
                refine W.guard true (w := ((decide (c61t1 = 0)) == true)) (by kernel_rfl) (congrArg (fun b => b == true) (decide_eq_true h68)) ?_
                refine W.adv 1 ?_
                refine W.guard true (w := ((decide (c61t1 = 0)) == true)) (by kernel_rfl) (congrArg (fun b => b == true) (decide_eq_true h68)) ?_
                obtain ⟨c69_0, c69_1, c69_2, hc70, H⟩ := H
                refine W.callR (g := 33) (ds := [(.int .i64 (wi (0 - a0))), (.int .i64 (wi (0 - a1)))]) (es := [(.int .i64 (wi (0 - a0))), (.int .i64 (wi (0 - a1)))]) (r := (.agg [(.bool c69_0), (.ints .i64 c69_1), (.ints .i64 c69_2)])) (by kernel_rfl) (by kernel_rfl) (Ic.args hc70 (by kernel_rfl)) (by kernel_rfl) ?_
                refine W.guard true (w := ((decide (c61t1 = 0)) == true)) (by kernel_rfl) (congrArg (fun b => b == true) (decide_eq_true h68)) ?_
                obtain ⟨c71_0, c71_1, c71_2, hc72, H⟩ := H
                refine W.callR (g := 32) (ds := [(.agg [(.bool c69_0), (.ints .i64 c69_1), (.ints .i64 c69_2)])]) (es := [(.agg [(.bool c69_0), (.ints .i64 c69_1), (.ints .i64 c69_2)])]) (r := (.agg [(.bool c71_0), (.ints .u64 c71_1), (.ints .u64 c71_2)])) (by kernel_rfl) (by kernel_rfl) (Ic.args hc72 (by kernel_rfl)) (by kernel_rfl) ?_
                refine W.guard true (w := ((decide (c61t1 = 0)) == true)) (by kernel_rfl) (congrArg (fun b => b == true) (decide_eq_true h68)) ?_
                obtain ⟨c73, hc74, H⟩ := H
                refine W.callR (g := 30) (ds := [(.agg [(.bool c61t0_0), (.ints .u64 c61t0_1), (.ints .u64 c61t0_2)]), (.agg [(.bool c71_0), (.ints .u64 c71_1), (.ints .u64 c71_2)])]) (es := [(.agg [(.bool c61t0_0), (.ints .u64 c61t0_1), (.ints .u64 c61t0_2)]), (.agg [(.bool c71_0), (.ints .u64 c71_1), (.ints .u64 c71_2)])]) (r := (.bool c73)) (by kernel_rfl) (by kernel_rfl) (Ic.args hc74 (by kernel_rfl)) (by kernel_rfl) ?_
                refine W.opS (OpIs.pk true (t := (decide (c61t1 = 0))) (x := (.bool c73)) (y := (.bool false)) (by kernel_rfl) (decide_eq_true h68)) ?_
                refine W.adv 1 ?_
                rcases H with ⟨h75, H⟩ | ⟨h75, H⟩
                · refine W.guard true (w := (c73 == true)) (by kernel_rfl) (congrArg (fun b => b == true) h75) ?_
                  refine W.adv 1 ?_
                  refine W.guard true (w := (c73 == true)) (by kernel_rfl) (congrArg (fun b => b == true) h75) ?_
                  obtain ⟨c76_0, c76_1, c76_2, hc77, H⟩ := H
                  refine W.callR (g := 34) (ds := [(.int .i64 (wi (0 - a0)))]) (es := [(.int .i64 (wi (0 - a0)))]) (r := (.agg [(.bool c76_0), (.ints .u64 c76_1), (.ints .u64 c76_2)])) (by kernel_rfl) (by kernel_rfl) (Ic.args hc77 (by kernel_rfl)) (by kernel_rfl) ?_
                  refine W.guard true (w := (c73 == true)) (by kernel_rfl) (congrArg (fun b => b == true) h75) ?_
                  refine W.adv 1 ?_
                  refine W.guard true (w := (c73 == true)) (by kernel_rfl) (congrArg (fun b => b == true) h75) ?_
                  obtain ⟨c78_0, c78_1, c78_2, hc79, H⟩ := H
                  refine W.callR (g := 33) (ds := [(.int .i64 (wi (0 - a0))), (.int .i64 1)]) (es := [(.int .i64 (wi (0 - a0))), (.int .i64 1)]) (r := (.agg [(.bool c78_0), (.ints .i64 c78_1), (.ints .i64 c78_2)])) (by kernel_rfl) (by kernel_rfl) (Ic.args hc79 (by kernel_rfl)) (by kernel_rfl) ?_
                  refine W.guard true (w := (c73 == true)) (by kernel_rfl) (congrArg (fun b => b == true) h75) ?_
                  obtain ⟨c80_0, c80_1, c80_2, hc81, H⟩ := H
                  refine W.callR (g := 32) (ds := [(.agg [(.bool c78_0), (.ints .i64 c78_1), (.ints .i64 c78_2)])]) (es := [(.agg [(.bool c78_0), (.ints .i64 c78_1), (.ints .i64 c78_2)])]) (r := (.agg [(.bool c80_0), (.ints .u64 c80_1), (.ints .u64 c80_2)])) (by kernel_rfl) (by kernel_rfl) (Ic.args hc81 (by kernel_rfl)) (by kernel_rfl) ?_
                  refine W.guard true (w := (c73 == true)) (by kernel_rfl) (congrArg (fun b => b == true) h75) ?_
                  obtain ⟨c82, hc83, H⟩ := H
                  refine W.callR (g := 30) (ds := [(.agg [(.bool c76_0), (.ints .u64 c76_1), (.ints .u64 c76_2)]), (.agg [(.bool c80_0), (.ints .u64 c80_1), (.ints .u64 c80_2)])]) (es := [(.agg [(.bool c76_0), (.ints .u64 c76_1), (.ints .u64 c76_2)]), (.agg [(.bool c80_0), (.ints .u64 c80_1), (.ints .u64 c80_2)])]) (r := (.bool c82)) (by kernel_rfl) (by kernel_rfl) (Ic.args hc83 (by kernel_rfl)) (by kernel_rfl) ?_
                  refine W.opS (OpIs.pk true (t := c73) (x := (.bool c82)) (y := (.bool false)) (by kernel_rfl) h75) ?_
                  refine W.adv 1 ?_
                  rcases H with ⟨h84, H⟩ | ⟨h84, H⟩
                  · refine W.guard true (w := (c82 == true)) (by kernel_rfl) (congrArg (fun b => b == true) h84) ?_
                    refine W.adv 1 ?_
                    refine W.guard true (w := (c82 == true)) (by kernel_rfl) (congrArg (fun b => b == true) h84) ?_
                    obtain ⟨c85, hc86, H⟩ := H
                    refine W.callR (g := 35) (ds := [(.agg [(.bool c61t0_0), (.ints .u64 c61t0_1), (.ints .u64 c61t0_2)])]) (es := [(.agg [(.bool c61t0_0), (.ints .u64 c61t0_1), (.ints .u64 c61t0_2)])]) (r := (.bool c85)) (by kernel_rfl) (by kernel_rfl) (Ic.args hc86 (by kernel_rfl)) (by kernel_rfl) ?_
                    refine W.guard true (w := (c82 == true)) (by kernel_rfl) (congrArg (fun b => b == true) h84) ?_
                    refine W.adv 1 ?_
                    refine W.guard true (w := (c82 == true)) (by kernel_rfl) (congrArg (fun b => b == true) h84) ?_
                    refine W.adv 1 ?_
                    refine W.guard true (w := (c82 == true)) (by kernel_rfl) (congrArg (fun b => b == true) h84) ?_
                    refine W.adv 1 ?_
                    refine W.guard true (w := (c82 == true)) (by kernel_rfl) (congrArg (fun b => b == true) h84) ?_
                    refine W.adv 1 ?_
                    refine W.opS (OpIs.pk true (t := c82) (x := (.bool (c85 == (decide ((wi (0 - a0)) = (wi (0 - a1))))))) (y := (.bool false)) (by kernel_rfl) h84) ?_
                    refine W.adv 1 ?_
                    rcases H with ⟨h87, H⟩ | ⟨h87, H⟩
                    · rcases H with ⟨h88, H⟩ | ⟨h88, H⟩
                      · refine W.guard true (w := ((c85 == (decide ((wi (0 - a0)) = (wi (0 - a1))))) == true)) (by kernel_rfl) (congrArg (fun b => b == true) (congr (congrArg (fun x y => x == y) h87) (decide_eq_true h88))) ?_
                        obtain ⟨c89, hc90, H⟩ := H
                        refine W.callR (g := 31) (ds := []) (es := []) (r := (.bool c89)) (by kernel_rfl) (by kernel_rfl) (Ic.args hc90 (by kernel_rfl)) (by kernel_rfl) ?_
                        refine W.opS (OpIs.pk true (t := (c85 == (decide ((wi (0 - a0)) = (wi (0 - a1)))))) (x := (.bool c89)) (y := (.bool false)) (by kernel_rfl) (congr (congrArg (fun x y => x == y) h87) (decide_eq_true h88))) ?_
                        refine W.adv 4 ?_
                        exact W.fin (x := .ret) (by kernel_rfl) (LAns.of (d := (.bool c89)) (by kernel_rfl) (by rw [H]))
                      · refine W.guard false (w := ((c85 == (decide ((wi (0 - a0)) = (wi (0 - a1))))) == true)) (by kernel_rfl) (congrArg (fun b => b == true) (congr (congrArg (fun x y => x == y) h87) (decide_eq_false h88))) ?_
                        refine W.opS (OpIs.pk false (t := (c85 == (decide ((wi (0 - a0)) = (wi (0 - a1)))))) (x := (.tuple [])) (y := (.bool false)) (by kernel_rfl) (congr (congrArg (fun x y => x == y) h87) (decide_eq_false h88))) ?_
                        refine W.adv 4 ?_
                        exact W.fin (x := .ret) (by kernel_rfl) (LAns.of (d := (.bool false)) (by kernel_rfl) (by rw [H]))
                    · rcases H with ⟨h91, H⟩ | ⟨h91, H⟩
                      · refine W.guard false (w := ((c85 == (decide ((wi (0 - a0)) = (wi (0 - a1))))) == true)) (by kernel_rfl) (congrArg (fun b => b == true) (congr (congrArg (fun x y => x == y) (bfalse h87)) (decide_eq_true h91))) ?_
                        refine W.opS (OpIs.pk false (t := (c85 == (decide ((wi (0 - a0)) = (wi (0 - a1)))))) (x := (.tuple [])) (y := (.bool false)) (by kernel_rfl) (congr (congrArg (fun x y => x == y) (bfalse h87)) (decide_eq_true h91))) ?_
                        refine W.adv 4 ?_
                        exact W.fin (x := .ret) (by kernel_rfl) (LAns.of (d := (.bool false)) (by kernel_rfl) (by rw [H]))
                      · refine W.guard true (w := ((c85 == (decide ((wi (0 - a0)) = (wi (0 - a1))))) == true)) (by kernel_rfl) (congrArg (fun b => b == true) (congr (congrArg (fun x y => x == y) (bfalse h87)) (decide_eq_false h91))) ?_
                        obtain ⟨c92, hc93, H⟩ := H
                        refine W.callR (g := 31) (ds := []) (es := []) (r := (.bool c92)) (by kernel_rfl) (by kernel_rfl) (Ic.args hc93 (by kernel_rfl)) (by kernel_rfl) ?_
                        refine W.opS (OpIs.pk true (t := (c85 == (decide ((wi (0 - a0)) = (wi (0 - a1)))))) (x := (.bool c92)) (y := (.bool false)) (by kernel_rfl) (congr (congrArg (fun x y => x == y) (bfalse h87)) (decide_eq_false h91))) ?_
                        refine W.adv 4 ?_
                        exact W.fin (x := .ret) (by kernel_rfl) (LAns.of (d := (.bool c92)) (by kernel_rfl) (by rw [H]))
                  · refine W.guard false (w := (c82 == true)) (by kernel_rfl) (congrArg (fun b => b == true) (bfalse h84)) ?_
                    refine W.guard false (w := (c82 == true)) (by kernel_rfl) (congrArg (fun b => b == true) (bfalse h84)) ?_
                    refine W.guard false (w := (c82 == true)) (by kernel_rfl) (congrArg (fun b => b == true) (bfalse h84)) ?_
                    refine W.guard false (w := (c82 == true)) (by kernel_rfl) (congrArg (fun b => b == true) (bfalse h84)) ?_
                    refine W.guard false (w := (c82 == true)) (by kernel_rfl) (congrArg (fun b => b == true) (bfalse h84)) ?_
                    refine W.guard false (w := (c82 == true)) (by kernel_rfl) (congrArg (fun b => b == true) (bfalse h84)) ?_
                    refine W.opS (OpIs.pk false (t := c82) (x := (.tuple [])) (y := (.bool false)) (by kernel_rfl) (bfalse h84)) ?_
                    refine W.adv 7 ?_
                    exact W.fin (x := .ret) (by kernel_rfl) (LAns.of (d := (.bool false)) (by kernel_rfl) (by rw [H]))
                · refine W.guard false (w := (c73 == true)) (by kernel_rfl) (congrArg (fun b => b == true) (bfalse h75)) ?_
                  refine W.guard false (w := (c73 == true)) (by kernel_rfl) (congrArg (fun b => b == true) (bfalse h75)) ?_
                  refine W.guard false (w := (c73 == true)) (by kernel_rfl) (congrArg (fun b => b == true) (bfalse h75)) ?_
                  refine W.guard false (w := (c73 == true)) (by kernel_rfl) (congrArg (fun b => b == true) (bfalse h75)) ?_
                  refine W.guard false (w := (c73 == true)) (by kernel_rfl) (congrArg (fun b => b == true) (bfalse h75)) ?_
                  refine W.guard false (w := (c73 == true)) (by kernel_rfl) (congrArg (fun b => b == true) (bfalse h75)) ?_
                  refine W.opS (OpIs.pk false (t := c73) (x := (.tuple [])) (y := (.bool false)) (by kernel_rfl) (bfalse h75)) ?_
                  refine W.adv 15 ?_
                  exact W.fin (x := .ret) (by kernel_rfl) (LAns.of (d := (.bool false)) (by kernel_rfl) (by rw [H]))
              · refine W.guard false (w := ((decide (c61t1 = 0)) == true)) (by kernel_rfl) (congrArg (fun b => b == true) (decide_eq_false h68)) ?_
                refine W.guard false (w := ((decide (c61t1 = 0)) == true)) (by kernel_rfl) (congrArg (fun b => b == true) (decide_eq_false h68)) ?_
                refine W.guard false (w := ((decide (c61t1 = 0)) == true)) (by kernel_rfl) (congrArg (fun b => b == true) (decide_eq_false h68)) ?_
                refine W.guard false (w := ((decide (c61t1 = 0)) == true)) (by kernel_rfl) (congrArg (fun b => b == true) (decide_eq_false h68)) ?_
                refine W.guard false (w := ((decide (c61t1 = 0)) == true)) (by kernel_rfl) (congrArg (fun b => b == true) (decide_eq_false h68)) ?_
                refine W.guard false (w := ((decide (c61t1 = 0)) == true)) (by kernel_rfl) (congrArg (fun b => b == true) (decide_eq_false h68)) ?_
                refine W.opS (OpIs.pk false (t := (decide (c61t1 = 0))) (x := (.tuple [])) (y := (.bool false)) (by kernel_rfl) (decide_eq_false h68)) ?_
                refine W.adv 23 ?_
                exact W.fin (x := .ret) (by kernel_rfl) (LAns.of (d := (.bool false)) (by kernel_rfl) (by rw [H]))
            · refine W.cond false (w := (decide (a1 < 0))) (by kernel_rfl) (decide_eq_false h67) ?_
              refine W.adv 7 ?_
              rcases H with ⟨h94, H⟩ | ⟨h94, H⟩
              · refine W.guard true (w := ((decide (c61t1 = 0)) == true)) (by kernel_rfl) (congrArg (fun b => b == true) (decide_eq_true h94)) ?_
                refine W.adv 1 ?_
                refine W.guard true (w := ((decide (c61t1 = 0)) == true)) (by kernel_rfl) (congrArg (fun b => b == true) (decide_eq_true h94)) ?_
                refine W.adv 1 ?_
                refine W.guard true (w := ((decide (c61t1 = 0)) == true)) (by kernel_rfl) (congrArg (fun b => b == true) (decide_eq_true h94)) ?_
                refine W.adv 1 ?_
                refine W.guard true (w := ((decide (c61t1 = 0)) == true)) (by kernel_rfl) (congrArg (fun b => b == true) (decide_eq_true h94)) ?_
                obtain ⟨c95_0, c95_1, c95_2, hc96, H⟩ := H
                refine W.callR (g := 33) (ds := [(.int .i64 a0), (.int .i64 a1)]) (es := [(.int .i64 a0), (.int .i64 a1)]) (r := (.agg [(.bool c95_0), (.ints .i64 c95_1), (.ints .i64 c95_2)])) (by kernel_rfl) (by kernel_rfl) (Ic.args hc96 (by kernel_rfl)) (by kernel_rfl) ?_
                refine W.guard true (w := ((decide (c61t1 = 0)) == true)) (by kernel_rfl) (congrArg (fun b => b == true) (decide_eq_true h94)) ?_
                obtain ⟨c97_0, c97_1, c97_2, hc98, H⟩ := H
                refine W.callR (g := 32) (ds := [(.agg [(.bool c95_0), (.ints .i64 c95_1), (.ints .i64 c95_2)])]) (es := [(.agg [(.bool c95_0), (.ints .i64 c95_1), (.ints .i64 c95_2)])]) (r := (.agg [(.bool c97_0), (.ints .u64 c97_1), (.ints .u64 c97_2)])) (by kernel_rfl) (by kernel_rfl) (Ic.args hc98 (by kernel_rfl)) (by kernel_rfl) ?_
                refine W.guard true (w := ((decide (c61t1 = 0)) == true)) (by kernel_rfl) (congrArg (fun b => b == true) (decide_eq_true h94)) ?_
                obtain ⟨c99, hc100, H⟩ := H
                refine W.callR (g := 30) (ds := [(.agg [(.bool c61t0_0), (.ints .u64 c61t0_1), (.ints .u64 c61t0_2)]), (.agg [(.bool c97_0), (.ints .u64 c97_1), (.ints .u64 c97_2)])]) (es := [(.agg [(.bool c61t0_0), (.ints .u64 c61t0_1), (.ints .u64 c61t0_2)]), (.agg [(.bool c97_0), (.ints .u64 c97_1), (.ints .u64 c97_2)])]) (r := (.bool c99)) (by kernel_rfl) (by kernel_rfl) (Ic.args hc100 (by kernel_rfl)) (by kernel_rfl) ?_
                refine W.opS (OpIs.pk true (t := (decide (c61t1 = 0))) (x := (.bool c99)) (y := (.bool false)) (by kernel_rfl) (decide_eq_true h94)) ?_
                refine W.adv 1 ?_
                rcases H with ⟨h101, H⟩ | ⟨h101, H⟩
                · refine W.guard true (w := (c99 == true)) (by kernel_rfl) (congrArg (fun b => b == true) h101) ?_
                  refine W.adv 1 ?_
                  refine W.guard true (w := (c99 == true)) (by kernel_rfl) (congrArg (fun b => b == true) h101) ?_
                  obtain ⟨c102_0, c102_1, c102_2, hc103, H⟩ := H
                  refine W.callR (g := 34) (ds := [(.int .i64 a0)]) (es := [(.int .i64 a0)]) (r := (.agg [(.bool c102_0), (.ints .u64 c102_1), (.ints .u64 c102_2)])) (by kernel_rfl) (by kernel_rfl) (Ic.args hc103 (by kernel_rfl)) (by kernel_rfl) ?_
                  refine W.guard true (w := (c99 == true)) (by kernel_rfl) (congrArg (fun b => b == true) h101) ?_
                  refine W.adv 1 ?_
                  refine W.guard true (w := (c99 == true)) (by kernel_rfl) (congrArg (fun b => b == true) h101) ?_
                  obtain ⟨c104_0, c104_1, c104_2, hc105, H⟩ := H
                  refine W.callR (g := 33) (ds := [(.int .i64 a0), (.int .i64 1)]) (es := [(.int .i64 a0), (.int .i64 1)]) (r := (.agg [(.bool c104_0), (.ints .i64 c104_1), (.ints .i64 c104_2)])) (by kernel_rfl) (by kernel_rfl) (Ic.args hc105 (by kernel_rfl)) (by kernel_rfl) ?_
                  refine W.guard true (w := (c99 == true)) (by kernel_rfl) (congrArg (fun b => b == true) h101) ?_
                  obtain ⟨c106_0, c106_1, c106_2, hc107, H⟩ := H
                  refine W.callR (g := 32) (ds := [(.agg [(.bool c104_0), (.ints .i64 c104_1), (.ints .i64 c104_2)])]) (es := [(.agg [(.bool c104_0), (.ints .i64 c104_1), (.ints .i64 c104_2)])]) (r := (.agg [(.bool c106_0), (.ints .u64 c106_1), (.ints .u64 c106_2)])) (by kernel_rfl) (by kernel_rfl) (Ic.args hc107 (by kernel_rfl)) (by kernel_rfl) ?_
                  refine W.guard true (w := (c99 == true)) (by kernel_rfl) (congrArg (fun b => b == true) h101) ?_
                  obtain ⟨c108, hc109, H⟩ := H
                  refine W.callR (g := 30) (ds := [(.agg [(.bool c102_0), (.ints .u64 c102_1), (.ints .u64 c102_2)]), (.agg [(.bool c106_0), (.ints .u64 c106_1), (.ints .u64 c106_2)])]) (es := [(.agg [(.bool c102_0), (.ints .u64 c102_1), (.ints .u64 c102_2)]), (.agg [(.bool c106_0), (.ints .u64 c106_1), (.ints .u64 c106_2)])]) (r := (.bool c108)) (by kernel_rfl) (by kernel_rfl) (Ic.args hc109 (by kernel_rfl)) (by kernel_rfl) ?_
                  refine W.opS (OpIs.pk true (t := c99) (x := (.bool c108)) (y := (.bool false)) (by kernel_rfl) h101) ?_
                  refine W.adv 1 ?_
                  rcases H with ⟨h110, H⟩ | ⟨h110, H⟩
                  · refine W.guard true (w := (c108 == true)) (by kernel_rfl) (congrArg (fun b => b == true) h110) ?_
                    refine W.adv 1 ?_
                    refine W.guard true (w := (c108 == true)) (by kernel_rfl) (congrArg (fun b => b == true) h110) ?_
                    obtain ⟨c111, hc112, H⟩ := H
                    refine W.callR (g := 35) (ds := [(.agg [(.bool c61t0_0), (.ints .u64 c61t0_1), (.ints .u64 c61t0_2)])]) (es := [(.agg [(.bool c61t0_0), (.ints .u64 c61t0_1), (.ints .u64 c61t0_2)])]) (r := (.bool c111)) (by kernel_rfl) (by kernel_rfl) (Ic.args hc112 (by kernel_rfl)) (by kernel_rfl) ?_
                    refine W.guard true (w := (c108 == true)) (by kernel_rfl) (congrArg (fun b => b == true) h110) ?_
                    refine W.adv 1 ?_
                    refine W.guard true (w := (c108 == true)) (by kernel_rfl) (congrArg (fun b => b == true) h110) ?_
                    refine W.adv 1 ?_
                    refine W.guard true (w := (c108 == true)) (by kernel_rfl) (congrArg (fun b => b == true) h110) ?_
                    refine W.adv 1 ?_
                    refine W.guard true (w := (c108 == true)) (by kernel_rfl) (congrArg (fun b => b == true) h110) ?_
                    refine W.adv 1 ?_
                    refine W.opS (OpIs.pk true (t := c108) (x := (.bool (c111 == (decide (a0 = a1))))) (y := (.bool false)) (by kernel_rfl) h110) ?_
                    refine W.adv 1 ?_
                    rcases H with ⟨h113, H⟩ | ⟨h113, H⟩
                    · rcases H with ⟨h114, H⟩ | ⟨h114, H⟩
                      · refine W.guard true (w := ((c111 == (decide (a0 = a1))) == true)) (by kernel_rfl) (congrArg (fun b => b == true) (congr (congrArg (fun x y => x == y) h113) (decide_eq_true h114))) ?_
                        obtain ⟨c115, hc116, H⟩ := H
                        refine W.callR (g := 31) (ds := []) (es := []) (r := (.bool c115)) (by kernel_rfl) (by kernel_rfl) (Ic.args hc116 (by kernel_rfl)) (by kernel_rfl) ?_
                        refine W.opS (OpIs.pk true (t := (c111 == (decide (a0 = a1)))) (x := (.bool c115)) (y := (.bool false)) (by kernel_rfl) (congr (congrArg (fun x y => x == y) h113) (decide_eq_true h114))) ?_
                        refine W.adv 4 ?_
                        exact W.fin (x := .ret) (by kernel_rfl) (LAns.of (d := (.bool c115)) (by kernel_rfl) (by rw [H]))
                      · refine W.guard false (w := ((c111 == (decide (a0 = a1))) == true)) (by kernel_rfl) (congrArg (fun b => b == true) (congr (congrArg (fun x y => x == y) h113) (decide_eq_false h114))) ?_
                        refine W.opS (OpIs.pk false (t := (c111 == (decide (a0 = a1)))) (x := (.tuple [])) (y := (.bool false)) (by kernel_rfl) (congr (congrArg (fun x y => x == y) h113) (decide_eq_false h114))) ?_
                        refine W.adv 4 ?_
                        exact W.fin (x := .ret) (by kernel_rfl) (LAns.of (d := (.bool false)) (by kernel_rfl) (by rw [H]))
                    · rcases H with ⟨h117, H⟩ | ⟨h117, H⟩
                      · refine W.guard false (w := ((c111 == (decide (a0 = a1))) == true)) (by kernel_rfl) (congrArg (fun b => b == true) (congr (congrArg (fun x y => x == y) (bfalse h113)) (decide_eq_true h117))) ?_
                        refine W.opS (OpIs.pk false (t := (c111 == (decide (a0 = a1)))) (x := (.tuple [])) (y := (.bool false)) (by kernel_rfl) (congr (congrArg (fun x y => x == y) (bfalse h113)) (decide_eq_true h117))) ?_
                        refine W.adv 4 ?_
                        exact W.fin (x := .ret) (by kernel_rfl) (LAns.of (d := (.bool false)) (by kernel_rfl) (by rw [H]))
                      · refine W.guard true (w := ((c111 == (decide (a0 = a1))) == true)) (by kernel_rfl) (congrArg (fun b => b == true) (congr (congrArg (fun x y => x == y) (bfalse h113)) (decide_eq_false h117))) ?_
                        obtain ⟨c118, hc119, H⟩ := H
                        refine W.callR (g := 31) (ds := []) (es := []) (r := (.bool c118)) (by kernel_rfl) (by kernel_rfl) (Ic.args hc119 (by kernel_rfl)) (by kernel_rfl) ?_
                        refine W.opS (OpIs.pk true (t := (c111 == (decide (a0 = a1)))) (x := (.bool c118)) (y := (.bool false)) (by kernel_rfl) (congr (congrArg (fun x y => x == y) (bfalse h113)) (decide_eq_false h117))) ?_
                        refine W.adv 4 ?_
                        exact W.fin (x := .ret) (by kernel_rfl) (LAns.of (d := (.bool c118)) (by kernel_rfl) (by rw [H]))
                  · refine W.guard false (w := (c108 == true)) (by kernel_rfl) (congrArg (fun b => b == true) (bfalse h110)) ?_
                    refine W.guard false (w := (c108 == true)) (by kernel_rfl) (congrArg (fun b => b == true) (bfalse h110)) ?_
                    refine W.guard false (w := (c108 == true)) (by kernel_rfl) (congrArg (fun b => b == true) (bfalse h110)) ?_
                    refine W.guard false (w := (c108 == true)) (by kernel_rfl) (congrArg (fun b => b == true) (bfalse h110)) ?_
                    refine W.guard false (w := (c108 == true)) (by kernel_rfl) (congrArg (fun b => b == true) (bfalse h110)) ?_
                    refine W.guard false (w := (c108 == true)) (by kernel_rfl) (congrArg (fun b => b == true) (bfalse h110)) ?_
                    refine W.opS (OpIs.pk false (t := c108) (x := (.tuple [])) (y := (.bool false)) (by kernel_rfl) (bfalse h110)) ?_
                    refine W.adv 7 ?_
                    exact W.fin (x := .ret) (by kernel_rfl) (LAns.of (d := (.bool false)) (by kernel_rfl) (by rw [H]))
                · refine W.guard false (w := (c99 == true)) (by kernel_rfl) (congrArg (fun b => b == true) (bfalse h101)) ?_
                  refine W.guard false (w := (c99 == true)) (by kernel_rfl) (congrArg (fun b => b == true) (bfalse h101)) ?_
                  refine W.guard false (w := (c99 == true)) (by kernel_rfl) (congrArg (fun b => b == true) (bfalse h101)) ?_
                  refine W.guard false (w := (c99 == true)) (by kernel_rfl) (congrArg (fun b => b == true) (bfalse h101)) ?_
                  refine W.guard false (w := (c99 == true)) (by kernel_rfl) (congrArg (fun b => b == true) (bfalse h101)) ?_
                  refine W.guard false (w := (c99 == true)) (by kernel_rfl) (congrArg (fun b => b == true) (bfalse h101)) ?_
                  refine W.opS (OpIs.pk false (t := c99) (x := (.tuple [])) (y := (.bool false)) (by kernel_rfl) (bfalse h101)) ?_
                  refine W.adv 15 ?_
                  exact W.fin (x := .ret) (by kernel_rfl) (LAns.of (d := (.bool false)) (by kernel_rfl) (by rw [H]))
              · refine W.guard false (w := ((decide (c61t1 = 0)) == true)) (by kernel_rfl) (congrArg (fun b => b == true) (decide_eq_false h94)) ?_
                refine W.guard false (w := ((decide (c61t1 = 0)) == true)) (by kernel_rfl) (congrArg (fun b => b == true) (decide_eq_false h94)) ?_
                refine W.guard false (w := ((decide (c61t1 = 0)) == true)) (by kernel_rfl) (congrArg (fun b => b == true) (decide_eq_false h94)) ?_
                refine W.guard false (w := ((decide (c61t1 = 0)) == true)) (by kernel_rfl) (congrArg (fun b => b == true) (decide_eq_false h94)) ?_
                refine W.guard false (w := ((decide (c61t1 = 0)) == true)) (by kernel_rfl) (congrArg (fun b => b == true) (decide_eq_false h94)) ?_
                refine W.guard false (w := ((decide (c61t1 = 0)) == true)) (by kernel_rfl) (congrArg (fun b => b == true) (decide_eq_false h94)) ?_
                refine W.opS (OpIs.pk false (t := (decide (c61t1 = 0))) (x := (.tuple [])) (y := (.bool false)) (by kernel_rfl) (decide_eq_false h94)) ?_
                refine W.adv 23 ?_
                exact W.fin (x := .ret) (by kernel_rfl) (LAns.of (d := (.bool false)) (by kernel_rfl) (by rw [H]))
end Go.Proofs.YtcmajlphfnihgaaA
