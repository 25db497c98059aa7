/- Walks through the functions: what makes each relation true. -/
import Derived.Test.YtcmajlphfnihgaaW0
set_option linter.unusedVariables false
set_option maxRecDepth 100000
namespace Go.Proofs.YtcmajlphfnihgaaA
open Go Go.Proofs
/-! ### trivium/triviumref08.Same -/
theorem ref08_Same_go {a0_0 : Bool} {a0_1 : List Int} {a0_2 : List Int} {a1_0 : Bool} {a1_1 : List Int} {a1_2 : List Int} {z : Bool} (H : (∃ c1 : Bool, (ref07_Same_R a0_0 a0_1 a1_0 a1_1 c1 ∧ ((c1 = true ∧ (∃ c4 : Bool, (ref02_Same_R a0_2 a1_2 c4 ∧ (z = c4)))) ∨ (¬ c1 = true ∧ (z = false)))))) : ref08_Same_R a0_0 a0_1 a0_2 a1_0 a1_1 a1_2 z := by
  refine W.ic (zs := [(.agg [(.bool a0_0), (.ints .u64 a0_1), (.ints .u64 a0_2)]), (.agg [(.bool a1_0), (.ints .u64 a1_1), (.ints .u64 a1_2)])]) Try.func30 (by kernel_rfl) (by kernel_rfl) (by kernel_rfl) (by kernel_rfl) ?_
  refine W.adv 13 ?_
  obtain ⟨c1, hc2, H⟩ := H
  refine W.callR (g := 80) (ds := [(.agg [(.bool a0_0), (.ints .u64 a0_1)]), (.agg [(.bool a1_0), (.ints .u64 a1_1)])]) (es := [(.agg [(.bool a0_0), (.ints .u64 a0_1)]), (.agg [(.bool a1_0), (.ints .u64 a1_1)])]) (r := (.bool c1)) (by kernel_rfl) (by kernel_rfl) (Ic.args hc2 (by kernel_rfl)) (by kernel_rfl) ?_
  refine W.adv 1 ?_
  rcases H with ⟨h3, H⟩ | ⟨h3, H⟩
  · refine W.guard true (w := (c1 == true)) (by kernel_rfl) (congrArg (fun b => b == true) h3) ?_
    refine W.adv 1 ?_
    refine W.guard true (w := (c1 == true)) (by kernel_rfl) (congrArg (fun b => b == true) h3) ?_
    refine W.adv 1 ?_
    refine W.guard true (w := (c1 == true)) (by kernel_rfl) (congrArg (fun b => b == true) h3) ?_
    refine W.adv 1 ?_
    refine W.guard true (w := (c1 == true)) (by kernel_rfl) (congrArg (fun b => b == true) h3) ?_
    refine W.adv 1 ?_
    refine W.guard true (w := (c1 == true)) (by kernel_rfl) (congrArg (fun b => b == true) h3) ?_
    obtain ⟨c4, hc5, H⟩ := H
    refine W.callR (g := 13) (ds := [(.ints .u64 a0_2), (.ints .u64 a1_2)]) (es := [(.ints .u64 a0_2), (.ints .u64 a1_2)]) (r := (.bool c4)) (by kernel_rfl) (by kernel_rfl) (Ic.args hc5 (by kernel_rfl)) (by kernel_rfl) ?_
    refine W.opS (OpIs.pk true (t := c1) (x := (.bool c4)) (y := (.bool false)) (by kernel_rfl) h3) ?_
    refine W.adv 4 ?_
    exact W.fin (x := .ret) (by kernel_rfl) (Ans.of (d := (.bool c4)) (d' := (.bool c4)) (e' := (.bool c4)) (by kernel_rfl) (by kernel_rfl) (by kernel_rfl) (by rw [H]))
  · refine W.guard false (w := (c1 == true)) (by kernel_rfl) (congrArg (fun b => b == true) (bfalse h3)) ?_
    refine W.guard false (w := (c1 == true)) (by kernel_rfl) (congrArg (fun b => b == true) (bfalse h3)) ?_
    refine W.guard false (w := (c1 == true)) (by kernel_rfl) (congrArg (fun b => b == true) (bfalse h3)) ?_
    refine W.guard false (w := (c1 == true)) (by kernel_rfl) (congrArg (fun b => b == true) (bfalse h3)) ?_
    refine W.guard false (w := (c1 == true)) (by kernel_rfl) (congrArg (fun b => b == true) (bfalse h3)) ?_
    refine W.opS (OpIs.pk false (t := c1) (x := (.tuple [])) (y := (.bool false)) (by kernel_rfl) (bfalse h3)) ?_
    refine W.adv 4 ?_
    exact W.fin (x := .ret) (by kernel_rfl) (Ans.of (d := (.bool false)) (d' := (.bool false)) (e' := (.bool false)) (by kernel_rfl) (by kernel_rfl) (by kernel_rfl) (by rw [H]))
/-! ### trivium/triviumlaw08.works -/
theorem law08_works_go {z : Bool} (H : (∃ c1t0_0 : Bool, (∃ c1t0_1 : List Int, (∃ c1t0_2 : List Int, (∃ c1t1 : Int, (rat_Frac_R 4 (-6) c1t0_0 c1t0_1 c1t0_2 c1t1 ∧ (∃ c3t0_0 : Bool, (∃ c3t0_1 : List Int, (∃ c3t0_2 : List Int, (∃ c3t1 : Int, (rat_Frac_R 1 0 c3t0_0 c3t0_1 c3t0_2 c3t1 ∧ ((c1t1 = 0 ∧ ((c3t1 = 3 ∧ ((c1t0_0 = true ∧ (∃ c8_0 : Bool, (∃ c8_1 : List Int, (∃ c8_2 : List Int, (ref08_Num_R (-2) 3 c8_0 c8_1 c8_2 ∧ (∃ c10_0 : Bool, (∃ c10_1 : List Int, (∃ c10_2 : List Int, (ref08_Back_R c8_0 c8_1 c8_2 c10_0 c10_1 c10_2 ∧ (∃ c12 : Bool, (ref08_Same_R c1t0_0 c1t0_1 c1t0_2 c10_0 c10_1 c10_2 c12 ∧ ((c12 = true ∧ (∃ c15_0 : Bool, (∃ c15_1 : List Int, (∃ c15_2 : List Int, (rat_Of_R 1 c15_0 c15_1 c15_2 ∧ (∃ c17 : Bool, (rat_One_R c15_0 c15_1 c15_2 c17 ∧ (z = c17)))))))) ∨ (¬ c12 = true ∧ (z = false)))))))))))))) ∨ (¬ c1t0_0 = true ∧ (z = false)))) ∨ (¬ c3t1 = 3 ∧ (z = false)))) ∨ (¬ c1t1 = 0 ∧ (z = false)))))))))))))) : law08_works_R z := by
  refine W.ic (zs := []) Try.func31 (by kernel_rfl) (by kernel_rfl) (by kernel_rfl) (by kernel_rfl) ?_
  refine W.adv 7 ?_
  obtain ⟨c1t0_0, c1t0_1, c1t0_2, c1t1, hc2, H⟩ := H
  refine W.callR (g := 27) (ds := [(.int .i64 4), (.int .i64 (-6))]) (es := [(.int .i64 4), (.int .i64 (-6))]) (r := (.tuple [(.agg [(.bool c1t0_0), (.ints .u64 c1t0_1), (.ints .u64 c1t0_2)]), (.int .i64 c1t1)])) (by kernel_rfl) (by kernel_rfl) (Ic.args hc2 (by kernel_rfl)) (by kernel_rfl) ?_
  refine W.adv 10 ?_
  obtain ⟨c3t0_0, c3t0_1, c3t0_2, c3t1, hc4, H⟩ := H
  refine W.callR (g := 27) (ds := [(.int .i64 1), (.int .i64 0)]) (es := [(.int .i64 1), (.int .i64 0)]) (r := (.tuple [(.agg [(.bool c3t0_0), (.ints .u64 c3t0_1), (.ints .u64 c3t0_2)]), (.int .i64 c3t1)])) (by kernel_rfl) (by kernel_rfl) (Ic.args hc4 (by kernel_rfl)) (by kernel_rfl) ?_
  refine W.adv 13 ?_
  rcases H with ⟨h5, H⟩ | ⟨h5, H⟩
  · refine W.guard true (w := ((decide (c1t1 = 0)) == true)) (by kernel_rfl) (congrArg (fun b => b == true) (decide_eq_true h5)) ?_
    refine W.adv 1 ?_
    refine W.guard true (w := ((decide (c1t1 = 0)) == true)) (by kernel_rfl) (congrArg (fun b => b == true) (decide_eq_true h5)) ?_
    refine W.adv 1 ?_
    refine W.opS (OpIs.pk true (t := (decide (c1t1 = 0))) (x := (.bool (decide (c3t1 = 3)))) (y := (.bool false)) (by kernel_rfl) (decide_eq_true h5)) ?_
    refine W.adv 1 ?_
    rcases H with ⟨h6, H⟩ | ⟨h6, H⟩
    · refine W.guard true (w := ((decide (c3t1 = 3)) == true)) (by kernel_rfl) (congrArg (fun b => b == true) (decide_eq_true h6)) ?_
      refine W.adv 1 ?_
      refine W.guard true (w := ((decide (c3t1 = 3)) == true)) (by kernel_rfl) (congrArg (fun b => b == true) (decide_eq_true h6)) ?_
      refine W.adv 1 ?_
      refine W.guard true (w := ((decide (c3t1 = 3)) == true)) (by kernel_rfl) (congrArg (fun b => b == true) (decide_eq_true h6)) ?_
      refine W.adv 1 ?_
      refine W.opS (OpIs.pk true (t := (decide (c3t1 = 3))) (x := (.bool c1t0_0)) (y := (.bool false)) (by kernel_rfl) (decide_eq_true h6)) ?_
      refine W.adv 1 ?_
      rcases H with ⟨h7, H⟩ | ⟨h7, H⟩
      · refine W.guard true (w := (c1t0_0 == true)) (by kernel_rfl) (congrArg (fun b => b == true) h7) ?_
        refine W.adv 1 ?_
        refine W.guard true (w := (c1t0_0 == true)) (by kernel_rfl) (congrArg (fun b => b == true) h7) ?_
        obtain ⟨c8_0, c8_1, c8_2, hc9, H⟩ := H
        refine W.callR (g := 33) (ds := [(.int .i64 (-2)), (.int .i64 3)]) (es := [(.int .i64 (-2)), (.int .i64 3)]) (r := (.agg [(.bool c8_0), (.ints .i64 c8_1), (.ints .i64 c8_2)])) (by kernel_rfl) (by kernel_rfl) (Ic.args hc9 (by kernel_rfl)) (by kernel_rfl) ?_
        refine W.guard true (w := (c1t0_0 == true)) (by kernel_rfl) (congrArg (fun b => b == true) h7) ?_
        obtain ⟨c10_0, c10_1, c10_2, hc11, H⟩ := H
        refine W.callR (g := 32) (ds := [(.agg [(.bool c8_0), (.ints .i64 c8_1), (.ints .i64 c8_2)])]) (es := [(.agg [(.bool c8_0), (.ints .i64 c8_1), (.ints .i64 c8_2)])]) (r := (.agg [(.bool c10_0), (.ints .u64 c10_1), (.ints .u64 c10_2)])) (by kernel_rfl) (by kernel_rfl) (Ic.args hc11 (by kernel_rfl)) (by kernel_rfl) ?_
        refine W.guard true (w := (c1t0_0 == true)) (by kernel_rfl) (congrArg (fun b => b == true) h7) ?_
        obtain ⟨c12, hc13, H⟩ := H
        refine W.callR (g := 30) (ds := [(.agg [(.bool c1t0_0), (.ints .u64 c1t0_1), (.ints .u64 c1t0_2)]), (.agg [(.bool c10_0), (.ints .u64 c10_1), (.ints .u64 c10_2)])]) (es := [(.agg [(.bool c1t0_0), (.ints .u64 c1t0_1), (.ints .u64 c1t0_2)]), (.agg [(.bool c10_0), (.ints .u64 c10_1), (.ints .u64 c10_2)])]) (r := (.bool c12)) (by kernel_rfl) (by kernel_rfl) (Ic.args hc13 (by kernel_rfl)) (by kernel_rfl) ?_
        refine W.opS (OpIs.pk true (t := c1t0_0) (x := (.bool c12)) (y := (.bool false)) (by kernel_rfl) h7) ?_
        refine W.adv 1 ?_
        rcases H with ⟨h14, H⟩ | ⟨h14, H⟩
        · refine W.guard true (w := (c12 == true)) (by kernel_rfl) (congrArg (fun b => b == true) h14) ?_
          obtain ⟨c15_0, c15_1, c15_2, hc16, H⟩ := H
          refine W.callR (g := 34) (ds := [(.int .i64 1)]) (es := [(.int .i64 1)]) (r := (.agg [(.bool c15_0), (.ints .u64 c15_1), (.ints .u64 c15_2)])) (by kernel_rfl) (by kernel_rfl) (Ic.args hc16 (by kernel_rfl)) (by kernel_rfl) ?_
          refine W.guard true (w := (c12 == true)) (by kernel_rfl) (congrArg (fun b => b == true) h14) ?_
          obtain ⟨c17, hc18, H⟩ := H
          refine W.callR (g := 35) (ds := [(.agg [(.bool c15_0), (.ints .u64 c15_1), (.ints .u64 c15_2)])]) (es := [(.agg [(.bool c15_0), (.ints .u64 c15_1), (.ints .u64 c15_2)])]) (r := (.bool c17)) (by kernel_rfl) (by kernel_rfl) (Ic.args hc18 (by kernel_rfl)) (by kernel_rfl) ?_
          refine W.opS (OpIs.pk true (t := c12) (x := (.bool c17)) (y := (.bool false)) (by kernel_rfl) h14) ?_
          refine W.adv 4 ?_
          exact W.fin (x := .ret) (by kernel_rfl) (Ans.of (d := (.bool c17)) (d' := (.bool c17)) (e' := (.bool c17)) (by kernel_rfl) (by kernel_rfl) (by kernel_rfl) (by rw [H]))
        · refine W.guard false (w := (c12 == true)) (by kernel_rfl) (congrArg (fun b => b == true) (bfalse h14)) ?_
          refine W.guard false (w := (c12 == true)) (by kernel_rfl) (congrArg (fun b => b == true) (bfalse h14)) ?_
          refine W.opS (OpIs.pk false (t := c12) (x := (.tuple [])) (y := (.bool false)) (by kernel_rfl) (bfalse h14)) ?_
          refine W.adv 4 ?_
          exact W.fin (x := .ret) (by kernel_rfl) (Ans.of (d := (.bool false)) (d' := (.bool false)) (e' := (.bool false)) (by kernel_rfl) (by kernel_rfl) (by kernel_rfl) (by rw [H]))
      · refine W.guard false (w := (c1t0_0 == true)) (by kernel_rfl) (congrArg (fun b => b == true) (bfalse h7)) ?_
        refine W.guard false (w := (c1t0_0 == true)) (by kernel_rfl) (congrArg (fun b => b == true) (bfalse h7)) ?_
        refine W.guard false (w := (c1t0_0 == true)) (by kernel_rfl) (congrArg (fun b => b == true) (bfalse h7)) ?_
        refine W.guard false (w := (c1t0_0 == true)) (by kernel_rfl) (congrArg (fun b => b == true) (bfalse h7)) ?_
        refine W.opS (OpIs.pk false (t := c1t0_0) (x := (.tuple [])) (y := (.bool false)) (by kernel_rfl) (bfalse h7)) ?_
        refine W.adv 8 ?_
        exact W.fin (x := .ret) (by kernel_rfl) (Ans.of (d := (.bool false)) (d' := (.bool false)) (e' := (.bool false)) (by kernel_rfl) (by kernel_rfl) (by kernel_rfl) (by rw [H]))
    · refine W.guard false (w := ((decide (c3t1 = 3)) == true)) (by kernel_rfl) (congrArg (fun b => b == true) (decide_eq_false h6)) ?_
      refine W.guard false (w := ((decide (c3t1 = 3)) == true)) (by kernel_rfl) (congrArg (fun b => b == true) (decide_eq_false h6)) ?_
      refine W.guard false (w := ((decide (c3t1 = 3)) == true)) (by kernel_rfl) (congrArg (fun b => b == true) (decide_eq_false h6)) ?_
      refine W.opS (OpIs.pk false (t := (decide (c3t1 = 3))) (x := (.tuple [])) (y := (.bool false)) (by kernel_rfl) (decide_eq_false h6)) ?_
      refine W.adv 14 ?_
      exact W.fin (x := .ret) (by kernel_rfl) (Ans.of (d := (.bool false)) (d' := (.bool false)) (e' := (.bool false)) (by kernel_rfl) (by kernel_rfl) (by kernel_rfl) (by rw [H]))
  · refine W.guard false (w := ((decide (c1t1 = 0)) == true)) (by kernel_rfl) (congrArg (fun b => b == true) (decide_eq_false h5)) ?_
    refine W.guard false (w := ((decide (c1t1 = 0)) == true)) (by kernel_rfl) (congrArg (fun b => b == true) (decide_eq_false h5)) ?_
    refine W.opS (OpIs.pk false (t := (decide (c1t1 = 0))) (x := (.tuple [])) (y := (.bool false)) (by kernel_rfl) (decide_eq_false h5)) ?_
    refine W.adv 19 ?_
    exact W.fin (x := .ret) (by kernel_rfl) (Ans.of (d := (.bool false)) (d' := (.bool false)) (e' := (.bool false)) (by kernel_rfl) (by kernel_rfl) (by kernel_rfl) (by rw [H]))
/-! ### trivium/triviumref08.Back -/
theorem ref08_Back_go {a0_0 : Bool} {a0_1 : List Int} {a0_2 : List Int} {z_0 : Bool} {z_1 : List Int} {z_2 : List Int} (H : (∃ c1_0 : Bool, (∃ c1_1 : List Int, (ref07_Back_R a0_0 a0_1 c1_0 c1_1 ∧ (∃ c3 : List Int, (ref02_Back_R a0_2 c3 ∧ (z_0 = c1_0 ∧ z_1 = c1_1 ∧ z_2 = c3))))))) : ref08_Back_R a0_0 a0_1 a0_2 z_0 z_1 z_2 := by
  refine W.ic (zs := [(.agg [(.bool a0_0), (.ints .i64 a0_1), (.ints .i64 a0_2)])]) Try.func32 (by kernel_rfl) (by kernel_rfl) (by kernel_rfl) (by kernel_rfl) ?_
  refine W.adv 10 ?_
  obtain ⟨c1_0, c1_1, hc2, H⟩ := H
  refine W.callR (g := 81) (ds := [(.agg [(.bool a0_0), (.ints .i64 a0_1)])]) (es := [(.agg [(.bool a0_0), (.ints .i64 a0_1)])]) (r := (.agg [(.bool c1_0), (.ints .u64 c1_1)])) (by kernel_rfl) (by kernel_rfl) (Ic.args hc2 (by kernel_rfl)) (by kernel_rfl) ?_
  refine W.adv 2 ?_
  obtain ⟨c3, hc4, H⟩ := H
  refine W.callR (g := 65) (ds := [(.ints .i64 a0_2)]) (es := [(.ints .i64 a0_2)]) (r := (.ints .u64 c3)) (by kernel_rfl) (by kernel_rfl) (Ic.args hc4 (by kernel_rfl)) (by kernel_rfl) ?_
  refine W.adv 5 ?_
  exact W.fin (x := .ret) (by kernel_rfl) (Ans.of (d := (.agg [(.bool c1_0), (.ints .u64 c1_1), (.ints .u64 c3)])) (d' := (.agg [(.bool c1_0), (.ints .u64 c1_1), (.ints .u64 c3)])) (e' := (.agg [(.bool c1_0), (.ints .u64 c1_1), (.ints .u64 c3)])) (by kernel_rfl) (by kernel_rfl) (by kernel_rfl) (by rw [H.1, H.2.1, H.2.2]))
/-! ### trivium/triviumref08.Num -/
theorem ref08_Num_go {a0 : Int} {a1 : Int} {z_0 : Bool} {z_1 : List Int} {z_2 : List Int} (H : (∃ c1_0 : Bool, (∃ c1_1 : List Int, (ref07_Num_R a0 c1_0 c1_1 ∧ (∃ c3 : List Int, (ref02_Num_R a1 c3 ∧ (∃ c5_0 : Bool, (∃ c5_1 : List Int, (∃ c5_2 : List Int, (ref08_Low_R c1_0 c1_1 c3 c5_0 c5_1 c5_2 ∧ (z_0 = c5_0 ∧ z_1 = c5_1 ∧ z_2 = c5_2))))))))))) : ref08_Num_R a0 a1 z_0 z_1 z_2 := by
  refine W.ic (zs := [(.int .i64 a0), (.int .i64 a1)]) Try.func33 (by kernel_rfl) (by kernel_rfl) (by kernel_rfl) (by kernel_rfl) ?_
  refine W.adv 8 ?_
  obtain ⟨c1_0, c1_1, hc2, H⟩ := H
  refine W.callR (g := 82) (ds := [(.int .i64 a0)]) (es := [(.int .i64 a0)]) (r := (.agg [(.bool c1_0), (.ints .i64 c1_1)])) (by kernel_rfl) (by kernel_rfl) (Ic.args hc2 (by kernel_rfl)) (by kernel_rfl) ?_
  refine W.adv 1 ?_
  obtain ⟨c3, hc4, H⟩ := H
  refine W.callR (g := 76) (ds := [(.int .i64 a1)]) (es := [(.int .i64 a1)]) (r := (.ints .i64 c3)) (by kernel_rfl) (by kernel_rfl) (Ic.args hc4 (by kernel_rfl)) (by kernel_rfl) ?_
  obtain ⟨c5_0, c5_1, c5_2, hc6, H⟩ := H
  refine W.callR (g := 39) (ds := [(.agg [(.bool c1_0), (.ints .i64 c1_1)]), (.ints .i64 c3)]) (es := [(.agg [(.bool c1_0), (.ints .i64 c1_1)]), (.ints .i64 c3)]) (r := (.agg [(.bool c5_0), (.ints .i64 c5_1), (.ints .i64 c5_2)])) (by kernel_rfl) (by kernel_rfl) (Ic.args hc6 (by kernel_rfl)) (by kernel_rfl) ?_
  refine W.adv 4 ?_
  exact W.fin (x := .ret) (by kernel_rfl) (Ans.of (d := (.agg [(.bool c5_0), (.ints .i64 c5_1), (.ints .i64 c5_2)])) (d' := (.agg [(.bool c5_0), (.ints .i64 c5_1), (.ints .i64 c5_2)])) (e' := (.agg [(.bool c5_0), (.ints .i64 c5_1), (.ints .i64 c5_2)])) (by kernel_rfl) (by kernel_rfl) (by kernel_rfl) (by rw [H.1, H.2.1, H.2.2]))
/-! ### trivium/triviumref08.Low -/
theorem ref08_Low_go {a0_0 : Bool} {a0_1 : List Int} {a1 : List Int} {z_0 : Bool} {z_1 : List Int} {z_2 : List Int} (H : (∃ c1 : List Int, (ref02_Gcd_R a0_1 a1 c1 ∧ (∃ c3t0 : List Int, (∃ c3t1 : List Int, (ref02_Div_R a0_1 c1 c3t0 c3t1 ∧ (∃ c5t0 : List Int, (∃ c5t1 : List Int, (ref02_Div_R a1 c1 c5t0 c5t1 ∧ ((a0_0 = true ∧ (z_0 = (decide (0 < (c3t0.length : Int))) ∧ z_1 = c3t0 ∧ z_2 = c5t0)) ∨ (¬ a0_0 = true ∧ (z_0 = false ∧ z_1 = c3t0 ∧ z_2 = c5t0)))))))))))) : ref08_Low_R a0_0 a0_1 a1 z_0 z_1 z_2 := by
  refine W.ic (zs := [(.agg [(.bool a0_0), (.ints .i64 a0_1)]), (.ints .i64 a1)]) Try.func39 (by kernel_rfl) (by kernel_rfl) (by kernel_rfl) (by kernel_rfl) ?_
  refine W.adv 11 ?_
  obtain ⟨c1, hc2, H⟩ := H
  refine W.callR (g := 85) (ds := [(.ints .i64 a0_1), (.ints .i64 a1)]) (es := [(.ints .i64 a0_1), (.ints .i64 a1)]) (r := (.ints .i64 c1)) (by kernel_rfl) (by kernel_rfl) (Ic.args hc2 (by kernel_rfl)) (by kernel_rfl) ?_
  refine W.adv 8 ?_
  obtain ⟨c3t0, c3t1, hc4, H⟩ := H
  refine W.callR (g := 86) (ds := [(.ints .i64 a0_1), (.ints .i64 c1)]) (es := [(.ints .i64 a0_1), (.ints .i64 c1)]) (r := (.tuple [(.ints .i64 c3t0), (.ints .i64 c3t1)])) (by kernel_rfl) (by kernel_rfl) (Ic.args hc4 (by kernel_rfl)) (by kernel_rfl) ?_
  refine W.adv 11 ?_
  obtain ⟨c5t0, c5t1, hc6, H⟩ := H
  refine W.callR (g := 86) (ds := [(.ints .i64 a1), (.ints .i64 c1)]) (es := [(.ints .i64 a1), (.ints .i64 c1)]) (r := (.tuple [(.ints .i64 c5t0), (.ints .i64 c5t1)])) (by kernel_rfl) (by kernel_rfl) (Ic.args hc6 (by kernel_rfl)) (by kernel_rfl) ?_
  refine W.adv 12 ?_
  rcases H with ⟨h7, H⟩ | ⟨h7, H⟩
  · refine W.guard true (w := (a0_0 == true)) (by kernel_rfl) (congrArg (fun b => b == true) h7) ?_
    refine W.adv 1 ?_
    refine W.guard true (w := (a0_0 == true)) (by kernel_rfl) (congrArg (fun b => b == true) h7) ?_
    refine W.adv 1 ?_
    refine W.guard true (w := (a0_0 == true)) (by kernel_rfl) (congrArg (fun b => b == true) h7) ?_
    refine W.adv 1 ?_
    refine W.opS (OpIs.pk true (t := a0_0) (x := (.bool (decide (0 < (c3t0.length : Int))))) (y := (.bool false)) (by kernel_rfl) h7) ?_
    refine W.adv 8 ?_
    exact W.fin (x := .ret) (by kernel_rfl) (Ans.of (d := (.agg [(.bool (decide (0 < (c3t0.length : Int)))), (.ints .i64 c3t0), (.ints .i64 c5t0)])) (d' := (.agg [(.bool (decide (0 < (c3t0.length : Int)))), (.ints .i64 c3t0), (.ints .i64 c5t0)])) (e' := (.agg [(.bool (decide (0 < (c3t0.length : Int)))), (.ints .i64 c3t0), (.ints .i64 c5t0)])) (by kernel_rfl) (by kernel_rfl) (by kernel_rfl) (by rw [H.1, H.2.1, H.2.2]))
  · refine W.guard false (w := (a0_0 == true)) (by kernel_rfl) (congrArg (fun b => b == true) (bfalse h7)) ?_
    refine W.guard false (w := (a0_0 == true)) (by kernel_rfl) (congrArg (fun b => b == true) (bfalse h7)) ?_
    refine W.guard false (w := (a0_0 == true)) (by kernel_rfl) (congrArg (fun b => b == true) (bfalse h7)) ?_
    refine W.opS (OpIs.pk false (t := a0_0) (x := (.tuple [])) (y := (.bool false)) (by kernel_rfl) (bfalse h7)) ?_
    refine W.adv 8 ?_
    exact W.fin (x := .ret) (by kernel_rfl) (Ans.of (d := (.agg [(.bool false), (.ints .i64 c3t0), (.ints .i64 c5t0)])) (d' := (.agg [(.bool false), (.ints .i64 c3t0), (.ints .i64 c5t0)])) (e' := (.agg [(.bool false), (.ints .i64 c3t0), (.ints .i64 c5t0)])) (by kernel_rfl) (by kernel_rfl) (by kernel_rfl) (by rw [H.1, H.2.1, H.2.2]))
/-! ### trivium/triviumref08.May -/
theorem ref08_May_go {a0_0 : Bool} {a0_1 : List Int} {a0_2 : List Int} {z : Bool} (H : (∃ c1 : Bool, (ref02_May_R a0_1 c1 ∧ ((c1 = true ∧ (∃ c4 : Bool, (ref02_May_R a0_2 c4 ∧ ((c4 = true ∧ (((a0_2.length : Int) = 0 ∧ (z = false)) ∨ (¬ (a0_2.length : Int) = 0 ∧ ((a0_0 = true ∧ (((a0_1.length : Int) = 0 ∧ (z = false)) ∨ (¬ (a0_1.length : Int) = 0 ∧ (∃ c10_0 : Bool, (∃ c10_1 : List Int, (ref07_Of_R a0_0 a0_1 c10_0 c10_1 ∧ (∃ c12 : List Int, (ref02_Of_R a0_2 c12 ∧ (∃ c14_0 : Bool, (∃ c14_1 : List Int, (∃ c14_2 : List Int, (ref08_Low_R c10_0 c10_1 c12 c14_0 c14_1 c14_2 ∧ (∃ c16_0 : Bool, (∃ c16_1 : List Int, (∃ c16_2 : List Int, (ref08_Back_R c14_0 c14_1 c14_2 c16_0 c16_1 c16_2 ∧ (∃ c18 : Bool, (ref08_Same_R c16_0 c16_1 c16_2 a0_0 a0_1 a0_2 c18 ∧ (z = c18))))))))))))))))))) ∨ (¬ a0_0 = true ∧ (∃ c20_0 : Bool, (∃ c20_1 : List Int, (ref07_Of_R a0_0 a0_1 c20_0 c20_1 ∧ (∃ c22 : List Int, (ref02_Of_R a0_2 c22 ∧ (∃ c24_0 : Bool, (∃ c24_1 : List Int, (∃ c24_2 : List Int, (ref08_Low_R c20_0 c20_1 c22 c24_0 c24_1 c24_2 ∧ (∃ c26_0 : Bool, (∃ c26_1 : List Int, (∃ c26_2 : List Int, (ref08_Back_R c24_0 c24_1 c24_2 c26_0 c26_1 c26_2 ∧ (∃ c28 : Bool, (ref08_Same_R c26_0 c26_1 c26_2 a0_0 a0_1 a0_2 c28 ∧ (z = c28))))))))))))))))))))) ∨ (¬ c4 = true ∧ (z = false)))))) ∨ (¬ c1 = true ∧ (z = false)))))) : ref08_May_R a0_0 a0_1 a0_2 z := by
  refine W.ic (zs := [(.agg [(.bool a0_0), (.ints .u64 a0_1), (.ints .u64 a0_2)])]) Try.func41 (by kernel_rfl) (by kernel_rfl) (by kernel_rfl) (by kernel_rfl) ?_
  refine W.adv 12 ?_
  obtain ⟨c1, hc2, H⟩ := H
  refine W.callR (g := 88) (ds := [(.ints .u64 a0_1)]) (es := [(.ints .u64 a0_1)]) (r := (.bool c1)) (by kernel_rfl) (by kernel_rfl) (Ic.args hc2 (by kernel_rfl)) (by kernel_rfl) ?_
  refine W.adv 2 ?_
  rcases H with ⟨h3, H⟩ | ⟨h3, H⟩
  · refine W.guard true (w := ((!c1) == false)) (by kernel_rfl) (congrArg (fun b => b == false) (congrArg (fun b => !b) h3)) ?_
    refine W.adv 1 ?_
    refine W.guard true (w := ((!c1) == false)) (by kernel_rfl) (congrArg (fun b => b == false) (congrArg (fun b => !b) h3)) ?_
    refine W.adv 1 ?_
    refine W.guard true (w := ((!c1) == false)) (by kernel_rfl) (congrArg (fun b => b == false) (congrArg (fun b => !b) h3)) ?_
    obtain ⟨c4, hc5, H⟩ := H
    refine W.callR (g := 88) (ds := [(.ints .u64 a0_2)]) (es := [(.ints .u64 a0_2)]) (r := (.bool c4)) (by kernel_rfl) (by kernel_rfl) (Ic.args hc5 (by kernel_rfl)) (by kernel_rfl) ?_
    refine W.guard true (w := ((!c1) == false)) (by kernel_rfl) (congrArg (fun b => b == false) (congrArg (fun b => !b) h3)) ?_
    refine W.adv 1 ?_
    refine W.opS (OpIs.pk false (t := (!c1)) (x := (.bool true)) (y := (.bool (!c4))) (by kernel_rfl) (congrArg (fun b => !b) h3)) ?_
    refine W.adv 1 ?_
    rcases H with ⟨h6, H⟩ | ⟨h6, H⟩
    · refine W.guard true (w := ((!c4) == false)) (by kernel_rfl) (congrArg (fun b => b == false) (congrArg (fun b => !b) h6)) ?_
      refine W.adv 1 ?_
      refine W.guard true (w := ((!c4) == false)) (by kernel_rfl) (congrArg (fun b => b == false) (congrArg (fun b => !b) h6)) ?_
      refine W.adv 1 ?_
      refine W.guard true (w := ((!c4) == false)) (by kernel_rfl) (congrArg (fun b => b == false) (congrArg (fun b => !b) h6)) ?_
      refine W.adv 1 ?_
      refine W.guard true (w := ((!c4) == false)) (by kernel_rfl) (congrArg (fun b => b == false) (congrArg (fun b => !b) h6)) ?_
      refine W.adv 1 ?_
      refine W.opS (OpIs.pk false (t := (!c4)) (x := (.bool true)) (y := (.bool (decide ((a0_2.length : Int) = 0)))) (by kernel_rfl) (congrArg (fun b => !b) h6)) ?_
      refine W.adv 1 ?_
      rcases H with ⟨h7, H⟩ | ⟨h7, H⟩
      · refine W.guard false (w := ((decide ((a0_2.length : Int) = 0)) == false)) (by kernel_rfl) (congrArg (fun b => b == false) (decide_eq_true h7)) ?_
        refine W.guard false (w := ((decide ((a0_2.length : Int) = 0)) == false)) (by kernel_rfl) (congrArg (fun b => b == false) (decide_eq_true h7)) ?_
        refine W.guard false (w := ((decide ((a0_2.length : Int) = 0)) == false)) (by kernel_rfl) (congrArg (fun b => b == false) (decide_eq_true h7)) ?_
        refine W.guard false (w := ((decide ((a0_2.length : Int) = 0)) == false)) (by kernel_rfl) (congrArg (fun b => b == false) (decide_eq_true h7)) ?_
        refine W.adv 5 ?_
        refine W.guard false (w := ((decide ((a0_2.length : Int) = 0)) == false)) (by kernel_rfl) (congrArg (fun b => b == false) (decide_eq_true h7)) ?_
        refine W.opS (OpIs.pk true (t := (decide ((a0_2.length : Int) = 0))) (x := (.bool true)) (y := (.tuple [])) (by kernel_rfl) (decide_eq_true h7)) ?_
        refine W.adv 10 ?_
        exact W.fin (x := .ret) (by kernel_rfl) (Ans.of (d := (.bool false)) (d' := (.bool false)) (e' := (.bool false)) (by kernel_rfl) (by kernel_rfl) (by kernel_rfl) (by rw [H]))
      · refine W.guard true (w := ((decide ((a0_2.length : Int) = 0)) == false)) (by kernel_rfl) (congrArg (fun b => b == false) (decide_eq_false h7)) ?_
        refine W.adv 1 ?_
        refine W.guard true (w := ((decide ((a0_2.length : Int) = 0)) == false)) (by kernel_rfl) (congrArg (fun b => b == false) (decide_eq_false h7)) ?_
        refine W.adv 1 ?_
        refine W.guard true (w := ((decide ((a0_2.length : Int) = 0)) == false)) (by kernel_rfl) (congrArg (fun b => b == false) (decide_eq_false h7)) ?_
        refine W.adv 1 ?_
        refine W.guard true (w := ((decide ((a0_2.length : Int) = 0)) == false)) (by kernel_rfl) (congrArg (fun b => b == false) (decide_eq_false h7)) ?_
        refine W.adv 1 ?_
        rcases H with ⟨h8, H⟩ | ⟨h8, H⟩
        · refine W.guard true (w := (a0_0 == true)) (by kernel_rfl) (congrArg (fun b => b == true) h8) ?_
          refine W.adv 1 ?_
          refine W.guard true (w := (a0_0 == true)) (by kernel_rfl) (congrArg (fun b => b == true) h8) ?_
          refine W.adv 1 ?_
          refine W.guard true (w := (a0_0 == true)) (by kernel_rfl) (congrArg (fun b => b == true) h8) ?_
          refine W.adv 1 ?_
          refine W.guard true (w := (a0_0 == true)) (by kernel_rfl) (congrArg (fun b => b == true) h8) ?_
          refine W.adv 1 ?_
          refine W.guard true (w := (a0_0 == true)) (by kernel_rfl) (congrArg (fun b => b == true) h8) ?_
          refine W.adv 1 ?_
          refine W.guard true (w := ((decide ((a0_2.length : Int) = 0)) == false)) (by kernel_rfl) (congrArg (fun b => b == false) (decide_eq_false h7)) ?_
          refine W.opS (OpIs.pk true (t := a0_0) (x := (.bool (decide ((a0_1.length : Int) = 0)))) (y := (.bool false)) (by kernel_rfl) h8) ?_
          refine W.opS (OpIs.pk false (t := (decide ((a0_2.length : Int) = 0))) (x := (.bool true)) (y := (.bool (decide ((a0_1.length : Int) = 0)))) (by kernel_rfl) (decide_eq_false h7)) ?_
          refine W.adv 2 ?_
          rcases H with ⟨h9, H⟩ | ⟨h9, H⟩
          · refine W.cond true (w := (decide ((a0_1.length : Int) = 0))) (by kernel_rfl) (decide_eq_true h9) ?_
            refine W.adv 7 ?_
            exact W.fin (x := .ret) (by kernel_rfl) (Ans.of (d := (.bool false)) (d' := (.bool false)) (e' := (.bool false)) (by kernel_rfl) (by kernel_rfl) (by kernel_rfl) (by rw [H]))
          · refine W.cond false (w := (decide ((a0_1.length : Int) = 0))) (by kernel_rfl) (decide_eq_false h9) ?_
            refine W.adv 6 ?_
            obtain ⟨c10_0, c10_1, hc11, H⟩ := H
            refine W.callR (g := 37) (ds := [(.agg [(.bool a0_0), (.ints .u64 a0_1)])]) (es := [(.agg [(.bool a0_0), (.ints .u64 a0_1)])]) (r := (.agg [(.bool c10_0), (.ints .i64 c10_1)])) (by kernel_rfl) (by kernel_rfl) (Ic.args hc11 (by kernel_rfl)) (by kernel_rfl) ?_
            refine W.adv 2 ?_
            obtain ⟨c12, hc13, H⟩ := H
            refine W.callR (g := 67) (ds := [(.ints .u64 a0_2)]) (es := [(.ints .u64 a0_2)]) (r := (.ints .i64 c12)) (by kernel_rfl) (by kernel_rfl) (Ic.args hc13 (by kernel_rfl)) (by kernel_rfl) ?_
            obtain ⟨c14_0, c14_1, c14_2, hc15, H⟩ := H
            refine W.callR (g := 39) (ds := [(.agg [(.bool c10_0), (.ints .i64 c10_1)]), (.ints .i64 c12)]) (es := [(.agg [(.bool c10_0), (.ints .i64 c10_1)]), (.ints .i64 c12)]) (r := (.agg [(.bool c14_0), (.ints .i64 c14_1), (.ints .i64 c14_2)])) (by kernel_rfl) (by kernel_rfl) (Ic.args hc15 (by kernel_rfl)) (by kernel_rfl) ?_
            obtain ⟨c16_0, c16_1, c16_2, hc17, H⟩ := H
            refine W.callR (g := 32) (ds := [(.agg [(.bool c14_0), (.ints .i64 c14_1), (.ints .i64 c14_2)])]) (es := [(.agg [(.bool c14_0), (.ints .i64 c14_1), (.ints .i64 c14_2)])]) (r := (.agg [(.bool c16_0), (.ints .u64 c16_1), (.ints .u64 c16_2)])) (by kernel_rfl) (by kernel_rfl) (Ic.args hc17 (by kernel_rfl)) (by kernel_rfl) ?_
            refine W.adv 1 ?_
            obtain ⟨c18, hc19, H⟩ := H
            refine W.callR (g := 30) (ds := [(.agg [(.bool c16_0), (.ints .u64 c16_1), (.ints .u64 c16_2)]), (.agg [(.bool a0_0), (.ints .u64 a0_1), (.ints .u64 a0_2)])]) (es := [(.agg [(.bool c16_0), (.ints .u64 c16_1), (.ints .u64 c16_2)]), (.agg [(.bool a0_0), (.ints .u64 a0_1), (.ints .u64 a0_2)])]) (r := (.bool c18)) (by kernel_rfl) (by kernel_rfl) (Ic.args hc19 (by kernel_rfl)) (by kernel_rfl) ?_
            refine W.adv 4 ?_
            exact W.fin (x := .ret) (by kernel_rfl) (Ans.of (d := (.bool c18)) (d' := (.bool c18)) (e' := (.bool c18)) (by kernel_rfl) (by kernel_rfl) (by kernel_rfl) (by rw [H]))
        · refine W.guard false (w := (a0_0 == true)) (by kernel_rfl) (congrArg (fun b => b == true) (bfalse h8)) ?_
          refine W.guard false (w := (a0_0 == true)) (by kernel_rfl) (congrArg (fun b => b == true) (bfalse h8)) ?_
          refine W.guard false (w := (a0_0 == true)) (by kernel_rfl) (congrArg (fun b => b == true) (bfalse h8)) ?_
          refine W.guard false (w := (a0_0 == true)) (by kernel_rfl) (congrArg (fun b => b == true) (bfalse h8)) ?_
          refine W.guard false (w := (a0_0 == true)) (by kernel_rfl) (congrArg (fun b => b == true) (bfalse h8)) ?_
          refine W.guard true (w := ((decide ((a0_2.length : Int) = 0)) == false)) (by kernel_rfl) (congrArg (fun b => b == false) (decide_eq_false h7)) ?_
          refine W.opS (OpIs.pk false (t := a0_0) (x := (.tuple [])) (y := (.bool false)) (by kernel_rfl) (bfalse h8)) ?_
          refine W.opS (OpIs.pk false (t := (decide ((a0_2.length : Int) = 0))) (x := (.bool true)) (y := (.bool false)) (by kernel_rfl) (decide_eq_false h7)) ?_
          refine W.adv 9 ?_
          obtain ⟨c20_0, c20_1, hc21, H⟩ := H
          refine W.callR (g := 37) (ds := [(.agg [(.bool a0_0), (.ints .u64 a0_1)])]) (es := [(.agg [(.bool a0_0), (.ints .u64 a0_1)])]) (r := (.agg [(.bool c20_0), (.ints .i64 c20_1)])) (by kernel_rfl) (by kernel_rfl) (Ic.args hc21 (by kernel_rfl)) (by kernel_rfl) ?_
          refine W.adv 2 ?_
          obtain ⟨c22, hc23, H⟩ := H
          refine W.callR (g := 67) (ds := [(.ints .u64 a0_2)]) (es := [(.ints .u64 a0_2)]) (r := (.ints .i64 c22)) (by kernel_rfl) (by kernel_rfl) (Ic.args hc23 (by kernel_rfl)) (by kernel_rfl) ?_
          obtain ⟨c24_0, c24_1, c24_2, hc25, H⟩ := H
          refine W.callR (g := 39) (ds := [(.agg [(.bool c20_0), (.ints .i64 c20_1)]), (.ints .i64 c22)]) (es := [(.agg [(.bool c20_0), (.ints .i64 c20_1)]), (.ints .i64 c22)]) (r := (.agg [(.bool c24_0), (.ints .i64 c24_1), (.ints .i64 c24_2)])) (by kernel_rfl) (by kernel_rfl) (Ic.args hc25 (by kernel_rfl)) (by kernel_rfl) ?_
          obtain ⟨c26_0, c26_1, c26_2, hc27, H⟩ := H
          refine W.callR (g := 32) (ds := [(.agg [(.bool c24_0), (.ints .i64 c24_1), (.ints .i64 c24_2)])]) (es := [(.agg [(.bool c24_0), (.ints .i64 c24_1), (.ints .i64 c24_2)])]) (r := (.agg [(.bool c26_0), (.ints .u64 c26_1), (.ints .u64 c26_2)])) (by kernel_rfl) (by kernel_rfl) (Ic.args hc27 (by kernel_rfl)) (by kernel_rfl) ?_
          refine W.adv 1 ?_
          obtain ⟨c28, hc29, H⟩ := H
          refine W.callR (g := 30) (ds := [(.agg [(.bool c26_0), (.ints .u64 c26_1), (.ints .u64 c26_2)]), (.agg [(.bool a0_0), (.ints .u64 a0_1), (.ints .u64 a0_2)])]) (es := [(.agg [(.bool c26_0), (.ints .u64 c26_1), (.ints .u64 c26_2)]), (.agg [(.bool a0_0), (.ints .u64 a0_1), (.ints .u64 a0_2)])]) (r := (.bool c28)) (by kernel_rfl) (by kernel_rfl) (Ic.args hc29 (by kernel_rfl)) (by kernel_rfl) ?_
          refine W.adv 4 ?_
          exact W.fin (x := .ret) (by kernel_rfl) (Ans.of (d := (.bool c28)) (d' := (.bool c28)) (e' := (.bool c28)) (by kernel_rfl) (by kernel_rfl) (by kernel_rfl) (by rw [H]))
    · refine W.guard false (w := ((!c4) == false)) (by kernel_rfl) (congrArg (fun b => b == false) (congrArg (fun b => !b) (bfalse h6))) ?_
      refine W.guard false (w := ((!c4) == false)) (by kernel_rfl) (congrArg (fun b => b == false) (congrArg (fun b => !b) (bfalse h6))) ?_
      refine W.guard false (w := ((!c4) == false)) (by kernel_rfl) (congrArg (fun b => b == false) (congrArg (fun b => !b) (bfalse h6))) ?_
      refine W.guard false (w := ((!c4) == false)) (by kernel_rfl) (congrArg (fun b => b == false) (congrArg (fun b => !b) (bfalse h6))) ?_
      refine W.opS (OpIs.pk true (t := (!c4)) (x := (.bool true)) (y := (.tuple [])) (by kernel_rfl) (congrArg (fun b => !b) (bfalse h6))) ?_
      refine W.adv 22 ?_
      exact W.fin (x := .ret) (by kernel_rfl) (Ans.of (d := (.bool false)) (d' := (.bool false)) (e' := (.bool false)) (by kernel_rfl) (by kernel_rfl) (by kernel_rfl) (by rw [H]))
  · refine W.guard false (w := ((!c1) == false)) (by kernel_rfl) (congrArg (fun b => b == false) (congrArg (fun b => !b) (bfalse h3))) ?_
    refine W.guard false (w := ((!c1) == false)) (by kernel_rfl) (congrArg (fun b => b == false) (congrArg (fun b => !b) (bfalse h3))) ?_
    refine W.guard false (w := ((!c1) == false)) (by kernel_rfl) (congrArg (fun b => b == false) (congrArg (fun b => !b) (bfalse h3))) ?_
    refine W.guard false (w := ((!c1) == false)) (by kernel_rfl) (congrArg (fun b => b == false) (congrArg (fun b => !b) (bfalse h3))) ?_
    refine W.opS (OpIs.pk true (t := (!c1)) (x := (.bool true)) (y := (.tuple [])) (by kernel_rfl) (congrArg (fun b => !b) (bfalse h3))) ?_
    refine W.adv 28 ?_
    exact W.fin (x := .ret) (by kernel_rfl) (Ans.of (d := (.bool false)) (d' := (.bool false)) (e' := (.bool false)) (by kernel_rfl) (by kernel_rfl) (by kernel_rfl) (by rw [H]))
/-! ### trivium/triviumref08.Clean -/
theorem ref08_Clean_go {a0_0 : Bool} {a0_1 : List Int} {a0_2 : List Int} {a1 : Int} {z_0 : Bool} {z_1 : List Int} {z_2 : List Int} (H : (∃ c1 : List Int, (ref02_Clean_R a0_2 a1 c1 ∧ (((c1.length : Int) = 0 ∧ (∃ c4_0 : Bool, (∃ c4_1 : List Int, (ref07_Clean_R a0_0 a0_1 a1 c4_0 c4_1 ∧ (∃ c6_0 : Bool, (∃ c6_1 : List Int, (ref07_Of_R c4_0 c4_1 c6_0 c6_1 ∧ (∃ c8 : List Int, (ref02_Of_R [1] c8 ∧ (∃ c10_0 : Bool, (∃ c10_1 : List Int, (∃ c10_2 : List Int, (ref08_Low_R c6_0 c6_1 c8 c10_0 c10_1 c10_2 ∧ (∃ c12_0 : Bool, (∃ c12_1 : List Int, (∃ c12_2 : List Int, (ref08_Back_R c10_0 c10_1 c10_2 c12_0 c12_1 c12_2 ∧ (z_0 = c12_0 ∧ z_1 = c12_1 ∧ z_2 = c12_2)))))))))))))))))) ∨ (¬ (c1.length : Int) = 0 ∧ (∃ c14_0 : Bool, (∃ c14_1 : List Int, (ref07_Clean_R a0_0 a0_1 a1 c14_0 c14_1 ∧ (∃ c16_0 : Bool, (∃ c16_1 : List Int, (ref07_Of_R c14_0 c14_1 c16_0 c16_1 ∧ (∃ c18 : List Int, (ref02_Of_R c1 c18 ∧ (∃ c20_0 : Bool, (∃ c20_1 : List Int, (∃ c20_2 : List Int, (ref08_Low_R c16_0 c16_1 c18 c20_0 c20_1 c20_2 ∧ (∃ c22_0 : Bool, (∃ c22_1 : List Int, (∃ c22_2 : List Int, (ref08_Back_R c20_0 c20_1 c20_2 c22_0 c22_1 c22_2 ∧ (z_0 = c22_0 ∧ z_1 = c22_1 ∧ z_2 = c22_2)))))))))))))))))))))) : ref08_Clean_R a0_0 a0_1 a0_2 a1 z_0 z_1 z_2 := by
  refine W.ic (zs := [(.agg [(.bool a0_0), (.ints .u64 a0_1), (.ints .u64 a0_2)]), (.int .i64 a1)]) Try.func42 (by kernel_rfl) (by kernel_rfl) (by kernel_rfl) (by kernel_rfl) ?_
  refine W.adv 11 ?_
  obtain ⟨c1, hc2, H⟩ := H
  refine W.callR (g := 12) (ds := [(.ints .u64 a0_2), (.int .i64 a1)]) (es := [(.ints .u64 a0_2), (.int .i64 a1)]) (r := (.ints .u64 c1)) (by kernel_rfl) (by kernel_rfl) (Ic.args hc2 (by kernel_rfl)) (by kernel_rfl) ?_
  refine W.adv 11 ?_
  rcases H with ⟨h3, H⟩ | ⟨h3, H⟩
  · refine W.cond true (w := (decide ((c1.length : Int) = 0))) (by kernel_rfl) (decide_eq_true h3) ?_
    refine W.adv 10 ?_
    obtain ⟨c4_0, c4_1, hc5, H⟩ := H
    refine W.callR (g := 36) (ds := [(.agg [(.bool a0_0), (.ints .u64 a0_1)]), (.int .i64 a1)]) (es := [(.agg [(.bool a0_0), (.ints .u64 a0_1)]), (.int .i64 a1)]) (r := (.agg [(.bool c4_0), (.ints .u64 c4_1)])) (by kernel_rfl) (by kernel_rfl) (Ic.args hc5 (by kernel_rfl)) (by kernel_rfl) ?_
    obtain ⟨c6_0, c6_1, hc7, H⟩ := H
    refine W.callR (g := 37) (ds := [(.agg [(.bool c4_0), (.ints .u64 c4_1)])]) (es := [(.agg [(.bool c4_0), (.ints .u64 c4_1)])]) (r := (.agg [(.bool c6_0), (.ints .i64 c6_1)])) (by kernel_rfl) (by kernel_rfl) (Ic.args hc7 (by kernel_rfl)) (by kernel_rfl) ?_
    refine W.adv 1 ?_
    obtain ⟨c8, hc9, H⟩ := H
    refine W.callR (g := 67) (ds := [(.lit (.ints .u64 [1]))]) (es := [(.ints .u64 [1])]) (r := (.ints .i64 c8)) (by kernel_rfl) (by kernel_rfl) (Ic.args hc9 (by kernel_rfl)) (by kernel_rfl) ?_
    obtain ⟨c10_0, c10_1, c10_2, hc11, H⟩ := H
    refine W.callR (g := 39) (ds := [(.agg [(.bool c6_0), (.ints .i64 c6_1)]), (.ints .i64 c8)]) (es := [(.agg [(.bool c6_0), (.ints .i64 c6_1)]), (.ints .i64 c8)]) (r := (.agg [(.bool c10_0), (.ints .i64 c10_1), (.ints .i64 c10_2)])) (by kernel_rfl) (by kernel_rfl) (Ic.args hc11 (by kernel_rfl)) (by kernel_rfl) ?_
    obtain ⟨c12_0, c12_1, c12_2, hc13, H⟩ := H
    refine W.callR (g := 32) (ds := [(.agg [(.bool c10_0), (.ints .i64 c10_1), (.ints .i64 c10_2)])]) (es := [(.agg [(.bool c10_0), (.ints .i64 c10_1), (.ints .i64 c10_2)])]) (r := (.agg [(.bool c12_0), (.ints .u64 c12_1), (.ints .u64 c12_2)])) (by kernel_rfl) (by kernel_rfl) (Ic.args hc13 (by kernel_rfl)) (by kernel_rfl) ?_
    refine W.adv 4 ?_
    exact W.fin (x := .ret) (by kernel_rfl) (Ans.of (d := (.agg [(.bool c12_0), (.ints .u64 c12_1), (.ints .u64 c12_2)])) (d' := (.agg [(.bool c12_0), (.ints .u64 c12_1), (.ints .u64 c12_2)])) (e' := (.agg [(.bool c12_0), (.ints .u64 c12_1), (.ints .u64 c12_2)])) (by kernel_rfl) (by kernel_rfl) (by kernel_rfl) (by rw [H.1, H.2.1, H.2.2]))
  · refine W.cond false (w := (decide ((c1.length : Int) = 0))) (by kernel_rfl) (decide_eq_false h3) ?_
    refine W.adv 7 ?_
    obtain ⟨c14_0, c14_1, hc15, H⟩ := H
    refine W.callR (g := 36) (ds := [(.agg [(.bool a0_0), (.ints .u64 a0_1)]), (.int .i64 a1)]) (es := [(.agg [(.bool a0_0), (.ints .u64 a0_1)]), (.int .i64 a1)]) (r := (.agg [(.bool c14_0), (.ints .u64 c14_1)])) (by kernel_rfl) (by kernel_rfl) (Ic.args hc15 (by kernel_rfl)) (by kernel_rfl) ?_
    obtain ⟨c16_0, c16_1, hc17, H⟩ := H
    refine W.callR (g := 37) (ds := [(.agg [(.bool c14_0), (.ints .u64 c14_1)])]) (es := [(.agg [(.bool c14_0), (.ints .u64 c14_1)])]) (r := (.agg [(.bool c16_0), (.ints .i64 c16_1)])) (by kernel_rfl) (by kernel_rfl) (Ic.args hc17 (by kernel_rfl)) (by kernel_rfl) ?_
    refine W.adv 1 ?_
    obtain ⟨c18, hc19, H⟩ := H
    refine W.callR (g := 67) (ds := [(.ints .u64 c1)]) (es := [(.ints .u64 c1)]) (r := (.ints .i64 c18)) (by kernel_rfl) (by kernel_rfl) (Ic.args hc19 (by kernel_rfl)) (by kernel_rfl) ?_
    obtain ⟨c20_0, c20_1, c20_2, hc21, H⟩ := H
    refine W.callR (g := 39) (ds := [(.agg [(.bool c16_0), (.ints .i64 c16_1)]), (.ints .i64 c18)]) (es := [(.agg [(.bool c16_0), (.ints .i64 c16_1)]), (.ints .i64 c18)]) (r := (.agg [(.bool c20_0), (.ints .i64 c20_1), (.ints .i64 c20_2)])) (by kernel_rfl) (by kernel_rfl) (Ic.args hc21 (by kernel_rfl)) (by kernel_rfl) ?_
    obtain ⟨c22_0, c22_1, c22_2, hc23, H⟩ := H
    refine W.callR (g := 32) (ds := [(.agg [(.bool c20_0), (.ints .i64 c20_1), (.ints .i64 c20_2)])]) (es := [(.agg [(.bool c20_0), (.ints .i64 c20_1), (.ints .i64 c20_2)])]) (r := (.agg [(.bool c22_0), (.ints .u64 c22_1), (.ints .u64 c22_2)])) (by kernel_rfl) (by kernel_rfl) (Ic.args hc23 (by kernel_rfl)) (by kernel_rfl) ?_
    refine W.adv 4 ?_
    exact W.fin (x := .ret) (by kernel_rfl) (Ans.of (d := (.agg [(.bool c22_0), (.ints .u64 c22_1), (.ints .u64 c22_2)])) (d' := (.agg [(.bool c22_0), (.ints .u64 c22_1), (.ints .u64 c22_2)])) (e' := (.agg [(.bool c22_0), (.ints .u64 c22_1), (.ints .u64 c22_2)])) (by kernel_rfl) (by kernel_rfl) (by kernel_rfl) (by rw [H.1, H.2.1, H.2.2]))
/-! ### trivium/triviumref08.Of -/
theorem ref08_Of_go {a0_0 : Bool} {a0_1 : List Int} {a0_2 : List Int} {z_0 : Bool} {z_1 : List Int} {z_2 : List Int} (H : (∃ c1_0 : Bool, (∃ c1_1 : List Int, (ref07_Of_R a0_0 a0_1 c1_0 c1_1 ∧ (∃ c3 : List Int, (ref02_Of_R a0_2 c3 ∧ (z_0 = c1_0 ∧ z_1 = c1_1 ∧ z_2 = c3))))))) : ref08_Of_R a0_0 a0_1 a0_2 z_0 z_1 z_2 := by
  refine W.ic (zs := [(.agg [(.bool a0_0), (.ints .u64 a0_1), (.ints .u64 a0_2)])]) Try.func43 (by kernel_rfl) (by kernel_rfl) (by kernel_rfl) (by kernel_rfl) ?_
  refine W.adv 10 ?_
  obtain ⟨c1_0, c1_1, hc2, H⟩ := H
  refine W.callR (g := 37) (ds := [(.agg [(.bool a0_0), (.ints .u64 a0_1)])]) (es := [(.agg [(.bool a0_0), (.ints .u64 a0_1)])]) (r := (.agg [(.bool c1_0), (.ints .i64 c1_1)])) (by kernel_rfl) (by kernel_rfl) (Ic.args hc2 (by kernel_rfl)) (by kernel_rfl) ?_
  refine W.adv 2 ?_
  obtain ⟨c3, hc4, H⟩ := H
  refine W.callR (g := 67) (ds := [(.ints .u64 a0_2)]) (es := [(.ints .u64 a0_2)]) (r := (.ints .i64 c3)) (by kernel_rfl) (by kernel_rfl) (Ic.args hc4 (by kernel_rfl)) (by kernel_rfl) ?_
  refine W.adv 5 ?_
  exact W.fin (x := .ret) (by kernel_rfl) (Ans.of (d := (.agg [(.bool c1_0), (.ints .i64 c1_1), (.ints .i64 c3)])) (d' := (.agg [(.bool c1_0), (.ints .i64 c1_1), (.ints .i64 c3)])) (e' := (.agg [(.bool c1_0), (.ints .i64 c1_1), (.ints .i64 c3)])) (by kernel_rfl) (by kernel_rfl) (by kernel_rfl) (by rw [H.1, H.2.1, H.2.2]))
/-! ### trivium/triviumref08.Zero -/
theorem ref08_Zero_go {a0_0 : Bool} {a0_1 : List Int} {a0_2 : List Int} {z : Bool} (H : (z = (decide ((a0_1.length : Int) = 0)))) : ref08_Zero_R a0_0 a0_1 a0_2 z := by
  refine W.ic (zs := [(.agg [(.bool a0_0), (.ints .i64 a0_1), (.ints .i64 a0_2)])]) Try.func46 (by kernel_rfl) (by kernel_rfl) (by kernel_rfl) (by kernel_rfl) ?_
  refine W.adv 17 ?_
  exact W.fin (x := .ret) (by kernel_rfl) (Ans.of (d := (.bool (decide ((a0_1.length : Int) = 0)))) (d' := (.bool (decide ((a0_1.length : Int) = 0)))) (e' := (.bool (decide ((a0_1.length : Int) = 0)))) (by kernel_rfl) (by kernel_rfl) (by kernel_rfl) (by rw [H]))
/-! ### trivium/triviumref08.Div -/
theorem ref08_Div_go {a0_0 : Bool} {a0_1 : List Int} {a0_2 : List Int} {a1_0 : Bool} {a1_1 : List Int} {a1_2 : List Int} {z_0 : Bool} {z_1 : List Int} {z_2 : List Int} (H : (∃ c1_0 : Bool, (∃ c1_1 : List Int, (∃ c1_2 : List Int, (ref08_Inv_R a1_0 a1_1 a1_2 c1_0 c1_1 c1_2 ∧ (∃ c3_0 : Bool, (∃ c3_1 : List Int, (∃ c3_2 : List Int, (ref08_Mul_R a0_0 a0_1 a0_2 c1_0 c1_1 c1_2 c3_0 c3_1 c3_2 ∧ (z_0 = c3_0 ∧ z_1 = c3_1 ∧ z_2 = c3_2)))))))))) : ref08_Div_R a0_0 a0_1 a0_2 a1_0 a1_1 a1_2 z_0 z_1 z_2 := by
  refine W.ic (zs := [(.agg [(.bool a0_0), (.ints .i64 a0_1), (.ints .i64 a0_2)]), (.agg [(.bool a1_0), (.ints .i64 a1_1), (.ints .i64 a1_2)])]) Try.func47 (by kernel_rfl) (by kernel_rfl) (by kernel_rfl) (by kernel_rfl) ?_
  refine W.adv 11 ?_
  obtain ⟨c1_0, c1_1, c1_2, hc2, H⟩ := H
  refine W.callR (g := 48) (ds := [(.agg [(.bool a1_0), (.ints .i64 a1_1), (.ints .i64 a1_2)])]) (es := [(.agg [(.bool a1_0), (.ints .i64 a1_1), (.ints .i64 a1_2)])]) (r := (.agg [(.bool c1_0), (.ints .i64 c1_1), (.ints .i64 c1_2)])) (by kernel_rfl) (by kernel_rfl) (Ic.args hc2 (by kernel_rfl)) (by kernel_rfl) ?_
  obtain ⟨c3_0, c3_1, c3_2, hc4, H⟩ := H
  refine W.callR (g := 56) (ds := [(.agg [(.bool a0_0), (.ints .i64 a0_1), (.ints .i64 a0_2)]), (.agg [(.bool c1_0), (.ints .i64 c1_1), (.ints .i64 c1_2)])]) (es := [(.agg [(.bool a0_0), (.ints .i64 a0_1), (.ints .i64 a0_2)]), (.agg [(.bool c1_0), (.ints .i64 c1_1), (.ints .i64 c1_2)])]) (r := (.agg [(.bool c3_0), (.ints .i64 c3_1), (.ints .i64 c3_2)])) (by kernel_rfl) (by kernel_rfl) (Ic.args hc4 (by kernel_rfl)) (by kernel_rfl) ?_
  refine W.adv 4 ?_
  exact W.fin (x := .ret) (by kernel_rfl) (Ans.of (d := (.agg [(.bool c3_0), (.ints .i64 c3_1), (.ints .i64 c3_2)])) (d' := (.agg [(.bool c3_0), (.ints .i64 c3_1), (.ints .i64 c3_2)])) (e' := (.agg [(.bool c3_0), (.ints .i64 c3_1), (.ints .i64 c3_2)])) (by kernel_rfl) (by kernel_rfl) (by kernel_rfl) (by rw [H.1, H.2.1, H.2.2]))
/-! ### trivium/triviumref08.Inv -/
theorem ref08_Inv_go {a0_0 : Bool} {a0_1 : List Int} {a0_2 : List Int} {z_0 : Bool} {z_1 : List Int} {z_2 : List Int} (H : (z_0 = a0_0 ∧ z_1 = a0_2 ∧ z_2 = a0_1)) : ref08_Inv_R a0_0 a0_1 a0_2 z_0 z_1 z_2 := by
  refine W.ic (zs := [(.agg [(.bool a0_0), (.ints .i64 a0_1), (.ints .i64 a0_2)])]) Try.func48 (by kernel_rfl) (by kernel_rfl) (by kernel_rfl) (by kernel_rfl) ?_
  refine W.adv 22 ?_
  exact W.fin (x := .ret) (by kernel_rfl) (Ans.of (d := (.agg [(.bool a0_0), (.ints .i64 a0_2), (.ints .i64 a0_1)])) (d' := (.agg [(.bool a0_0), (.ints .i64 a0_2), (.ints .i64 a0_1)])) (e' := (.agg [(.bool a0_0), (.ints .i64 a0_2), (.ints .i64 a0_1)])) (by kernel_rfl) (by kernel_rfl) (by kernel_rfl) (by rw [H.1, H.2.1, H.2.2]))
/-! ### trivium/triviumref08.Neg -/
theorem ref08_Neg_go {a0_0 : Bool} {a0_1 : List Int} {a0_2 : List Int} {z_0 : Bool} {z_1 : List Int} {z_2 : List Int} (H : (∃ c1_0 : Bool, (∃ c1_1 : List Int, (ref07_Neg_R a0_0 a0_1 c1_0 c1_1 ∧ (z_0 = c1_0 ∧ z_1 = c1_1 ∧ z_2 = a0_2))))) : ref08_Neg_R a0_0 a0_1 a0_2 z_0 z_1 z_2 := by
  refine W.ic (zs := [(.agg [(.bool a0_0), (.ints .i64 a0_1), (.ints .i64 a0_2)])]) Try.func50 (by kernel_rfl) (by kernel_rfl) (by kernel_rfl) (by kernel_rfl) ?_
  refine W.adv 10 ?_
  obtain ⟨c1_0, c1_1, hc2, H⟩ := H
  refine W.callR (g := 38) (ds := [(.agg [(.bool a0_0), (.ints .i64 a0_1)])]) (es := [(.agg [(.bool a0_0), (.ints .i64 a0_1)])]) (r := (.agg [(.bool c1_0), (.ints .i64 c1_1)])) (by kernel_rfl) (by kernel_rfl) (Ic.args hc2 (by kernel_rfl)) (by kernel_rfl) ?_
  refine W.adv 7 ?_
  exact W.fin (x := .ret) (by kernel_rfl) (Ans.of (d := (.agg [(.bool c1_0), (.ints .i64 c1_1), (.ints .i64 a0_2)])) (d' := (.agg [(.bool c1_0), (.ints .i64 c1_1), (.ints .i64 a0_2)])) (e' := (.agg [(.bool c1_0), (.ints .i64 c1_1), (.ints .i64 a0_2)])) (by kernel_rfl) (by kernel_rfl) (by kernel_rfl) (by rw [H.1, H.2.1, H.2.2]))
/-! ### trivium/triviumref08.Add -/
theorem ref08_Add_go {a0_0 : Bool} {a0_1 : List Int} {a0_2 : List Int} {a1_0 : Bool} {a1_1 : List Int} {a1_2 : List Int} {z_0 : Bool} {z_1 : List Int} {z_2 : List Int} (H : (∃ c1_0 : Bool, (∃ c1_1 : List Int, (ref07_Mul_R a0_0 a0_1 false a1_2 c1_0 c1_1 ∧ (∃ c3_0 : Bool, (∃ c3_1 : List Int, (ref07_Mul_R a1_0 a1_1 false a0_2 c3_0 c3_1 ∧ (∃ c5_0 : Bool, (∃ c5_1 : List Int, (ref07_Add_R c1_0 c1_1 c3_0 c3_1 c5_0 c5_1 ∧ (∃ c7 : List Int, (ref02_Mul_R a0_2 a1_2 c7 ∧ (∃ c9_0 : Bool, (∃ c9_1 : List Int, (∃ c9_2 : List Int, (ref08_Low_R c5_0 c5_1 c7 c9_0 c9_1 c9_2 ∧ (z_0 = c9_0 ∧ z_1 = c9_1 ∧ z_2 = c9_2))))))))))))))))) : ref08_Add_R a0_0 a0_1 a0_2 a1_0 a1_1 a1_2 z_0 z_1 z_2 := by
  refine W.ic (zs := [(.agg [(.bool a0_0), (.ints .i64 a0_1), (.ints .i64 a0_2)]), (.agg [(.bool a1_0), (.ints .i64 a1_1), (.ints .i64 a1_2)])]) Try.func52 (by kernel_rfl) (by kernel_rfl) (by kernel_rfl) (by kernel_rfl) ?_
  refine W.adv 14 ?_
  obtain ⟨c1_0, c1_1, hc2, H⟩ := H
  refine W.callR (g := 93) (ds := [(.agg [(.bool a0_0), (.ints .i64 a0_1)]), (.agg [(.bool false), (.ints .i64 a1_2)])]) (es := [(.agg [(.bool a0_0), (.ints .i64 a0_1)]), (.agg [(.bool false), (.ints .i64 a1_2)])]) (r := (.agg [(.bool c1_0), (.ints .i64 c1_1)])) (by kernel_rfl) (by kernel_rfl) (Ic.args hc2 (by kernel_rfl)) (by kernel_rfl) ?_
  refine W.adv 5 ?_
  obtain ⟨c3_0, c3_1, hc4, H⟩ := H
  refine W.callR (g := 93) (ds := [(.agg [(.bool a1_0), (.ints .i64 a1_1)]), (.agg [(.bool false), (.ints .i64 a0_2)])]) (es := [(.agg [(.bool a1_0), (.ints .i64 a1_1)]), (.agg [(.bool false), (.ints .i64 a0_2)])]) (r := (.agg [(.bool c3_0), (.ints .i64 c3_1)])) (by kernel_rfl) (by kernel_rfl) (Ic.args hc4 (by kernel_rfl)) (by kernel_rfl) ?_
  refine W.adv 10 ?_
  obtain ⟨c5_0, c5_1, hc6, H⟩ := H
  refine W.callR (g := 94) (ds := [(.agg [(.bool c1_0), (.ints .i64 c1_1)]), (.agg [(.bool c3_0), (.ints .i64 c3_1)])]) (es := [(.agg [(.bool c1_0), (.ints .i64 c1_1)]), (.agg [(.bool c3_0), (.ints .i64 c3_1)])]) (r := (.agg [(.bool c5_0), (.ints .i64 c5_1)])) (by kernel_rfl) (by kernel_rfl) (Ic.args hc6 (by kernel_rfl)) (by kernel_rfl) ?_
  refine W.adv 4 ?_
  obtain ⟨c7, hc8, H⟩ := H
  refine W.callR (g := 68) (ds := [(.ints .i64 a0_2), (.ints .i64 a1_2)]) (es := [(.ints .i64 a0_2), (.ints .i64 a1_2)]) (r := (.ints .i64 c7)) (by kernel_rfl) (by kernel_rfl) (Ic.args hc8 (by kernel_rfl)) (by kernel_rfl) ?_
  obtain ⟨c9_0, c9_1, c9_2, hc10, H⟩ := H
  refine W.callR (g := 39) (ds := [(.agg [(.bool c5_0), (.ints .i64 c5_1)]), (.ints .i64 c7)]) (es := [(.agg [(.bool c5_0), (.ints .i64 c5_1)]), (.ints .i64 c7)]) (r := (.agg [(.bool c9_0), (.ints .i64 c9_1), (.ints .i64 c9_2)])) (by kernel_rfl) (by kernel_rfl) (Ic.args hc10 (by kernel_rfl)) (by kernel_rfl) ?_
  refine W.adv 4 ?_
  exact W.fin (x := .ret) (by kernel_rfl) (Ans.of (d := (.agg [(.bool c9_0), (.ints .i64 c9_1), (.ints .i64 c9_2)])) (d' := (.agg [(.bool c9_0), (.ints .i64 c9_1), (.ints .i64 c9_2)])) (e' := (.agg [(.bool c9_0), (.ints .i64 c9_1), (.ints .i64 c9_2)])) (by kernel_rfl) (by kernel_rfl) (by kernel_rfl) (by rw [H.1, H.2.1, H.2.2]))
/-! ### trivium/triviumref08.Sub -/
theorem ref08_Sub_go {a0_0 : Bool} {a0_1 : List Int} {a0_2 : List Int} {a1_0 : Bool} {a1_1 : List Int} {a1_2 : List Int} {z_0 : Bool} {z_1 : List Int} {z_2 : List Int} (H : (∃ c1_0 : Bool, (∃ c1_1 : List Int, (∃ c1_2 : List Int, (ref08_Neg_R a1_0 a1_1 a1_2 c1_0 c1_1 c1_2 ∧ (∃ c3_0 : Bool, (∃ c3_1 : List Int, (∃ c3_2 : List Int, (ref08_Add_R a0_0 a0_1 a0_2 c1_0 c1_1 c1_2 c3_0 c3_1 c3_2 ∧ (z_0 = c3_0 ∧ z_1 = c3_1 ∧ z_2 = c3_2)))))))))) : ref08_Sub_R a0_0 a0_1 a0_2 a1_0 a1_1 a1_2 z_0 z_1 z_2 := by
  refine W.ic (zs := [(.agg [(.bool a0_0), (.ints .i64 a0_1), (.ints .i64 a0_2)]), (.agg [(.bool a1_0), (.ints .i64 a1_1), (.ints .i64 a1_2)])]) Try.func54 (by kernel_rfl) (by kernel_rfl) (by kernel_rfl) (by kernel_rfl) ?_
  refine W.adv 11 ?_
  obtain ⟨c1_0, c1_1, c1_2, hc2, H⟩ := H
  refine W.callR (g := 50) (ds := [(.agg [(.bool a1_0), (.ints .i64 a1_1), (.ints .i64 a1_2)])]) (es := [(.agg [(.bool a1_0), (.ints .i64 a1_1), (.ints .i64 a1_2)])]) (r := (.agg [(.bool c1_0), (.ints .i64 c1_1), (.ints .i64 c1_2)])) (by kernel_rfl) (by kernel_rfl) (Ic.args hc2 (by kernel_rfl)) (by kernel_rfl) ?_
  obtain ⟨c3_0, c3_1, c3_2, hc4, H⟩ := H
  refine W.callR (g := 52) (ds := [(.agg [(.bool a0_0), (.ints .i64 a0_1), (.ints .i64 a0_2)]), (.agg [(.bool c1_0), (.ints .i64 c1_1), (.ints .i64 c1_2)])]) (es := [(.agg [(.bool a0_0), (.ints .i64 a0_1), (.ints .i64 a0_2)]), (.agg [(.bool c1_0), (.ints .i64 c1_1), (.ints .i64 c1_2)])]) (r := (.agg [(.bool c3_0), (.ints .i64 c3_1), (.ints .i64 c3_2)])) (by kernel_rfl) (by kernel_rfl) (Ic.args hc4 (by kernel_rfl)) (by kernel_rfl) ?_
  refine W.adv 4 ?_
  exact W.fin (x := .ret) (by kernel_rfl) (Ans.of (d := (.agg [(.bool c3_0), (.ints .i64 c3_1), (.ints .i64 c3_2)])) (d' := (.agg [(.bool c3_0), (.ints .i64 c3_1), (.ints .i64 c3_2)])) (e' := (.agg [(.bool c3_0), (.ints .i64 c3_1), (.ints .i64 c3_2)])) (by kernel_rfl) (by kernel_rfl) (by kernel_rfl) (by rw [H.1, H.2.1, H.2.2]))
/-! ### trivium/triviumref08.Mul -/
theorem ref08_Mul_go {a0_0 : Bool} {a0_1 : List Int} {a0_2 : List Int} {a1_0 : Bool} {a1_1 : List Int} {a1_2 : List Int} {z_0 : Bool} {z_1 : List Int} {z_2 : List Int} (H : (∃ c1_0 : Bool, (∃ c1_1 : List Int, (ref07_Mul_R a0_0 a0_1 a1_0 a1_1 c1_0 c1_1 ∧ (∃ c3 : List Int, (ref02_Mul_R a0_2 a1_2 c3 ∧ (∃ c5_0 : Bool, (∃ c5_1 : List Int, (∃ c5_2 : List Int, (ref08_Low_R c1_0 c1_1 c3 c5_0 c5_1 c5_2 ∧ (z_0 = c5_0 ∧ z_1 = c5_1 ∧ z_2 = c5_2))))))))))) : ref08_Mul_R a0_0 a0_1 a0_2 a1_0 a1_1 a1_2 z_0 z_1 z_2 := by
  refine W.ic (zs := [(.agg [(.bool a0_0), (.ints .i64 a0_1), (.ints .i64 a0_2)]), (.agg [(.bool a1_0), (.ints .i64 a1_1), (.ints .i64 a1_2)])]) Try.func56 (by kernel_rfl) (by kernel_rfl) (by kernel_rfl) (by kernel_rfl) ?_
  refine W.adv 13 ?_
  obtain ⟨c1_0, c1_1, hc2, H⟩ := H
  refine W.callR (g := 93) (ds := [(.agg [(.bool a0_0), (.ints .i64 a0_1)]), (.agg [(.bool a1_0), (.ints .i64 a1_1)])]) (es := [(.agg [(.bool a0_0), (.ints .i64 a0_1)]), (.agg [(.bool a1_0), (.ints .i64 a1_1)])]) (r := (.agg [(.bool c1_0), (.ints .i64 c1_1)])) (by kernel_rfl) (by kernel_rfl) (Ic.args hc2 (by kernel_rfl)) (by kernel_rfl) ?_
  refine W.adv 4 ?_
  obtain ⟨c3, hc4, H⟩ := H
  refine W.callR (g := 68) (ds := [(.ints .i64 a0_2), (.ints .i64 a1_2)]) (es := [(.ints .i64 a0_2), (.ints .i64 a1_2)]) (r := (.ints .i64 c3)) (by kernel_rfl) (by kernel_rfl) (Ic.args hc4 (by kernel_rfl)) (by kernel_rfl) ?_
  obtain ⟨c5_0, c5_1, c5_2, hc6, H⟩ := H
  refine W.callR (g := 39) (ds := [(.agg [(.bool c1_0), (.ints .i64 c1_1)]), (.ints .i64 c3)]) (es := [(.agg [(.bool c1_0), (.ints .i64 c1_1)]), (.ints .i64 c3)]) (r := (.agg [(.bool c5_0), (.ints .i64 c5_1), (.ints .i64 c5_2)])) (by kernel_rfl) (by kernel_rfl) (Ic.args hc6 (by kernel_rfl)) (by kernel_rfl) ?_
  refine W.adv 4 ?_
  exact W.fin (x := .ret) (by kernel_rfl) (Ans.of (d := (.agg [(.bool c5_0), (.ints .i64 c5_1), (.ints .i64 c5_2)])) (d' := (.agg [(.bool c5_0), (.ints .i64 c5_1), (.ints .i64 c5_2)])) (e' := (.agg [(.bool c5_0), (.ints .i64 c5_1), (.ints .i64 c5_2)])) (by kernel_rfl) (by kernel_rfl) (by kernel_rfl) (by rw [H.1, H.2.1, H.2.2]))
/-! ### trivium/triviumref08.Cmp -/
theorem ref08_Cmp_go {a0_0 : Bool} {a0_1 : List Int} {a0_2 : List Int} {a1_0 : Bool} {a1_1 : List Int} {a1_2 : List Int} {z : Int} (H : (∃ c1_0 : Bool, (∃ c1_1 : List Int, (∃ c1_2 : List Int, (ref08_Sub_R a0_0 a0_1 a0_2 a1_0 a1_1 a1_2 c1_0 c1_1 c1_2 ∧ (∃ c3 : Int, (ref08_Sign_R c1_0 c1_1 c1_2 c3 ∧ (z = c3)))))))) : ref08_Cmp_R a0_0 a0_1 a0_2 a1_0 a1_1 a1_2 z := by
  refine W.ic (zs := [(.agg [(.bool a0_0), (.ints .i64 a0_1), (.ints .i64 a0_2)]), (.agg [(.bool a1_0), (.ints .i64 a1_1), (.ints .i64 a1_2)])]) Try.func58 (by kernel_rfl) (by kernel_rfl) (by kernel_rfl) (by kernel_rfl) ?_
  refine W.adv 11 ?_
  obtain ⟨c1_0, c1_1, c1_2, hc2, H⟩ := H
  refine W.callR (g := 54) (ds := [(.agg [(.bool a0_0), (.ints .i64 a0_1), (.ints .i64 a0_2)]), (.agg [(.bool a1_0), (.ints .i64 a1_1), (.ints .i64 a1_2)])]) (es := [(.agg [(.bool a0_0), (.ints .i64 a0_1), (.ints .i64 a0_2)]), (.agg [(.bool a1_0), (.ints .i64 a1_1), (.ints .i64 a1_2)])]) (r := (.agg [(.bool c1_0), (.ints .i64 c1_1), (.ints .i64 c1_2)])) (by kernel_rfl) (by kernel_rfl) (Ic.args hc2 (by kernel_rfl)) (by kernel_rfl) ?_
  obtain ⟨c3, hc4, H⟩ := H
  refine W.callR (g := 60) (ds := [(.agg [(.bool c1_0), (.ints .i64 c1_1), (.ints .i64 c1_2)])]) (es := [(.agg [(.bool c1_0), (.ints .i64 c1_1), (.ints .i64 c1_2)])]) (r := (.int .i64 c3)) (by kernel_rfl) (by kernel_rfl) (Ic.args hc4 (by kernel_rfl)) (by kernel_rfl) ?_
  refine W.adv 4 ?_
  exact W.fin (x := .ret) (by kernel_rfl) (Ans.of (d := (.int .i64 c3)) (d' := (.int .i64 c3)) (e' := (.int .i64 c3)) (by kernel_rfl) (by kernel_rfl) (by kernel_rfl) (by rw [H]))
/-! ### trivium/triviumref08.Sign -/
theorem ref08_Sign_go {a0_0 : Bool} {a0_1 : List Int} {a0_2 : List Int} {z : Int} (H : (∃ c1 : Int, (ref07_Sign_R a0_0 a0_1 c1 ∧ (z = c1)))) : ref08_Sign_R a0_0 a0_1 a0_2 z := by
  refine W.ic (zs := [(.agg [(.bool a0_0), (.ints .i64 a0_1), (.ints .i64 a0_2)])]) Try.func60 (by kernel_rfl) (by kernel_rfl) (by kernel_rfl) (by kernel_rfl) ?_
  refine W.adv 10 ?_
  obtain ⟨c1, hc2, H⟩ := H
  refine W.callR (g := 96) (ds := [(.agg [(.bool a0_0), (.ints .i64 a0_1)])]) (es := [(.agg [(.bool a0_0), (.ints .i64 a0_1)])]) (r := (.int .i64 c1)) (by kernel_rfl) (by kernel_rfl) (Ic.args hc2 (by kernel_rfl)) (by kernel_rfl) ?_
  refine W.adv 4 ?_
  exact W.fin (x := .ret) (by kernel_rfl) (Ans.of (d := (.int .i64 c1)) (d' := (.int .i64 c1)) (e' := (.int .i64 c1)) (by kernel_rfl) (by kernel_rfl) (by kernel_rfl) (by rw [H]))
end Go.Proofs.YtcmajlphfnihgaaA
