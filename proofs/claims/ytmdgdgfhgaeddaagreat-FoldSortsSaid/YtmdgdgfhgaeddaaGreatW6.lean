/- Walks through the functions: what makes each relation true. -/
import Derived.Test.YtmdgdgfhgaeddaaGreatW0
set_option linter.unusedVariables false
set_option maxRecDepth 100000
namespace Go.Proofs.YtmdgdgfhgaeddaaGreatA
open Go Go.Proofs
/-! ### trivium/rat.Cmp -/
theorem rat_Cmp_go {a0_0 : Bool} {a0_1 : List Int} {a0_2 : List Int} {a1_0 : Bool} {a1_1 : List Int} {a1_2 : List Int} {z : Int} (H : (∃ c1_0 : Bool, (∃ c1_1 : List Int, (rat_up_R a1_0 a1_1 a1_2 c1_0 c1_1 ∧ (∃ c3_0 : Bool, (∃ c3_1 : List Int, (whole_Mul_R a0_0 a0_1 c1_0 c1_1 c3_0 c3_1 ∧ (∃ c5_0 : Bool, (∃ c5_1 : List Int, (rat_up_R a0_0 a0_1 a0_2 c5_0 c5_1 ∧ (∃ c7_0 : Bool, (∃ c7_1 : List Int, (whole_Mul_R a1_0 a1_1 c5_0 c5_1 c7_0 c7_1 ∧ (∃ c9 : Int, (whole_Cmp_R c3_0 c3_1 c7_0 c7_1 c9 ∧ (z = c9)))))))))))))))) : rat_Cmp_R a0_0 a0_1 a0_2 a1_0 a1_1 a1_2 z := by
  refine W.ic (zs := [(.agg [.bool a0_0, .ints .u64 a0_1, .ints .u64 a0_2]), (.agg [.bool a1_0, .ints .u64 a1_1, .ints .u64 a1_2])]) Tryz.func18 (by kernel_rfl) (by kernel_rfl) (by kernel_rfl) (by kernel_rfl) ?_
  refine W.adv 12 ?_
  obtain ⟨c1_0, c1_1, hc2, H⟩ := H
  refine W.callR (g := 44) (ds := [(.agg [.bool a1_0, .ints .u64 a1_1, .ints .u64 a1_2])]) (es := [(.agg [.bool a1_0, .ints .u64 a1_1, .ints .u64 a1_2])]) (r := (.agg [.bool c1_0, .ints .u64 c1_1])) (by kernel_rfl) (by kernel_rfl) (Ic.args hc2 (by kernel_rfl)) (by kernel_rfl) ?_
  obtain ⟨c3_0, c3_1, hc4, H⟩ := H
  refine W.callR (g := 43) (ds := [(.agg [.bool a0_0, .ints .u64 a0_1]), (.agg [.bool c1_0, .ints .u64 c1_1])]) (es := [(.agg [.bool a0_0, .ints .u64 a0_1]), (.agg [.bool c1_0, .ints .u64 c1_1])]) (r := (.agg [.bool c3_0, .ints .u64 c3_1])) (by kernel_rfl) (by kernel_rfl) (Ic.args hc4 (by kernel_rfl)) (by kernel_rfl) ?_
  refine W.adv 3 ?_
  obtain ⟨c5_0, c5_1, hc6, H⟩ := H
  refine W.callR (g := 44) (ds := [(.agg [.bool a0_0, .ints .u64 a0_1, .ints .u64 a0_2])]) (es := [(.agg [.bool a0_0, .ints .u64 a0_1, .ints .u64 a0_2])]) (r := (.agg [.bool c5_0, .ints .u64 c5_1])) (by kernel_rfl) (by kernel_rfl) (Ic.args hc6 (by kernel_rfl)) (by kernel_rfl) ?_
  obtain ⟨c7_0, c7_1, hc8, H⟩ := H
  refine W.callR (g := 43) (ds := [(.agg [.bool a1_0, .ints .u64 a1_1]), (.agg [.bool c5_0, .ints .u64 c5_1])]) (es := [(.agg [.bool a1_0, .ints .u64 a1_1]), (.agg [.bool c5_0, .ints .u64 c5_1])]) (r := (.agg [.bool c7_0, .ints .u64 c7_1])) (by kernel_rfl) (by kernel_rfl) (Ic.args hc8 (by kernel_rfl)) (by kernel_rfl) ?_
  obtain ⟨c9, hc10, H⟩ := H
  refine W.callR (g := 42) (ds := [(.agg [.bool c3_0, .ints .u64 c3_1]), (.agg [.bool c7_0, .ints .u64 c7_1])]) (es := [(.agg [.bool c3_0, .ints .u64 c3_1]), (.agg [.bool c7_0, .ints .u64 c7_1])]) (r := (.int .i64 c9)) (by kernel_rfl) (by kernel_rfl) (Ic.args hc10 (by kernel_rfl)) (by kernel_rfl) ?_
  refine W.adv 4 ?_
  exact W.fin (x := .ret) (by kernel_rfl) (Ans.of (d := (.int .i64 c9)) (d' := (.int .i64 c9)) (e' := (.int .i64 c9)) (by kernel_rfl) (by kernel_rfl) (by kernel_rfl) (by rw [H]))
/-! ### trivium/rat.Of -/
theorem rat_Of_go {a0 : Int} {z_0 : Bool} {z_1 : List Int} {z_2 : List Int} (H : (∃ c1_0 : Bool, (∃ c1_1 : List Int, (whole_Of_R a0 c1_0 c1_1 ∧ (∃ c3 : List Int, (rat_one_R c3 ∧ (z_0 = c1_0 ∧ z_1 = c1_1 ∧ z_2 = c3))))))) : rat_Of_R a0 z_0 z_1 z_2 := by
  refine W.ic (zs := [.int .i64 a0]) Tryz.func19 (by kernel_rfl) (by kernel_rfl) (by kernel_rfl) (by kernel_rfl) ?_
  refine W.adv 8 ?_
  obtain ⟨c1_0, c1_1, hc2, H⟩ := H
  refine W.callR (g := 45) (ds := [.int .i64 a0]) (es := [.int .i64 a0]) (r := (.agg [.bool c1_0, .ints .u64 c1_1])) (by kernel_rfl) (by kernel_rfl) (Ic.args hc2 (by kernel_rfl)) (by kernel_rfl) ?_
  obtain ⟨c3, hc4, H⟩ := H
  refine W.callR (g := 46) (ds := []) (es := []) (r := (.ints .u64 c3)) (by kernel_rfl) (by kernel_rfl) (Ic.args hc4 (by kernel_rfl)) (by kernel_rfl) ?_
  refine W.adv 5 ?_
  exact W.fin (x := .ret) (by kernel_rfl) (Ans.of (d := (.agg [.bool c1_0, .ints .u64 c1_1, .ints .u64 c3])) (d' := (.agg [.bool c1_0, .ints .u64 c1_1, .ints .u64 c3])) (e' := (.agg [.bool c1_0, .ints .u64 c1_1, .ints .u64 c3])) (by kernel_rfl) (by kernel_rfl) (by kernel_rfl) (by rw [H.1, H.2.1, H.2.2]))
/-! ### trivium/rat.Add -/
theorem rat_Add_go {a0_0 : Bool} {a0_1 : List Int} {a0_2 : List Int} {a1_0 : Bool} {a1_1 : List Int} {a1_2 : List Int} {z_0 : Bool} {z_1 : List Int} {z_2 : List Int} (H : (∃ c1_0 : Bool, (∃ c1_1 : List Int, (rat_up_R a1_0 a1_1 a1_2 c1_0 c1_1 ∧ (∃ c3_0 : Bool, (∃ c3_1 : List Int, (whole_Mul_R a0_0 a0_1 c1_0 c1_1 c3_0 c3_1 ∧ (∃ c5_0 : Bool, (∃ c5_1 : List Int, (rat_up_R a0_0 a0_1 a0_2 c5_0 c5_1 ∧ (∃ c7_0 : Bool, (∃ c7_1 : List Int, (whole_Mul_R a1_0 a1_1 c5_0 c5_1 c7_0 c7_1 ∧ (∃ c9_0 : Bool, (∃ c9_1 : List Int, (whole_Add_R c3_0 c3_1 c7_0 c7_1 c9_0 c9_1 ∧ (∃ c11_0 : Bool, (∃ c11_1 : List Int, (rat_up_R a0_0 a0_1 a0_2 c11_0 c11_1 ∧ (∃ c13_0 : Bool, (∃ c13_1 : List Int, (rat_up_R a1_0 a1_1 a1_2 c13_0 c13_1 ∧ (∃ c15_0 : Bool, (∃ c15_1 : List Int, (whole_Mul_R c11_0 c11_1 c13_0 c13_1 c15_0 c15_1 ∧ (∃ c17t0_0 : Bool, (∃ c17t0_1 : List Int, (∃ c17t0_2 : List Int, (∃ c17t1 : Int, (rat_Make_R c9_0 c9_1 c15_0 c15_1 c17t0_0 c17t0_1 c17t0_2 c17t1 ∧ (z_0 = c17t0_0 ∧ z_1 = c17t0_1 ∧ z_2 = c17t0_2))))))))))))))))))))))))))))))) : rat_Add_R a0_0 a0_1 a0_2 a1_0 a1_1 a1_2 z_0 z_1 z_2 := by
  refine W.ic (zs := [(.agg [.bool a0_0, .ints .u64 a0_1, .ints .u64 a0_2]), (.agg [.bool a1_0, .ints .u64 a1_1, .ints .u64 a1_2])]) Tryz.func20 (by kernel_rfl) (by kernel_rfl) (by kernel_rfl) (by kernel_rfl) ?_
  refine W.adv 12 ?_
  obtain ⟨c1_0, c1_1, hc2, H⟩ := H
  refine W.callR (g := 44) (ds := [(.agg [.bool a1_0, .ints .u64 a1_1, .ints .u64 a1_2])]) (es := [(.agg [.bool a1_0, .ints .u64 a1_1, .ints .u64 a1_2])]) (r := (.agg [.bool c1_0, .ints .u64 c1_1])) (by kernel_rfl) (by kernel_rfl) (Ic.args hc2 (by kernel_rfl)) (by kernel_rfl) ?_
  obtain ⟨c3_0, c3_1, hc4, H⟩ := H
  refine W.callR (g := 43) (ds := [(.agg [.bool a0_0, .ints .u64 a0_1]), (.agg [.bool c1_0, .ints .u64 c1_1])]) (es := [(.agg [.bool a0_0, .ints .u64 a0_1]), (.agg [.bool c1_0, .ints .u64 c1_1])]) (r := (.agg [.bool c3_0, .ints .u64 c3_1])) (by kernel_rfl) (by kernel_rfl) (Ic.args hc4 (by kernel_rfl)) (by kernel_rfl) ?_
  refine W.adv 3 ?_
  obtain ⟨c5_0, c5_1, hc6, H⟩ := H
  refine W.callR (g := 44) (ds := [(.agg [.bool a0_0, .ints .u64 a0_1, .ints .u64 a0_2])]) (es := [(.agg [.bool a0_0, .ints .u64 a0_1, .ints .u64 a0_2])]) (r := (.agg [.bool c5_0, .ints .u64 c5_1])) (by kernel_rfl) (by kernel_rfl) (Ic.args hc6 (by kernel_rfl)) (by kernel_rfl) ?_
  obtain ⟨c7_0, c7_1, hc8, H⟩ := H
  refine W.callR (g := 43) (ds := [(.agg [.bool a1_0, .ints .u64 a1_1]), (.agg [.bool c5_0, .ints .u64 c5_1])]) (es := [(.agg [.bool a1_0, .ints .u64 a1_1]), (.agg [.bool c5_0, .ints .u64 c5_1])]) (r := (.agg [.bool c7_0, .ints .u64 c7_1])) (by kernel_rfl) (by kernel_rfl) (Ic.args hc8 (by kernel_rfl)) (by kernel_rfl) ?_
  obtain ⟨c9_0, c9_1, hc10, H⟩ := H
  refine W.callR (g := 47) (ds := [(.agg [.bool c3_0, .ints .u64 c3_1]), (.agg [.bool c7_0, .ints .u64 c7_1])]) (es := [(.agg [.bool c3_0, .ints .u64 c3_1]), (.agg [.bool c7_0, .ints .u64 c7_1])]) (r := (.agg [.bool c9_0, .ints .u64 c9_1])) (by kernel_rfl) (by kernel_rfl) (Ic.args hc10 (by kernel_rfl)) (by kernel_rfl) ?_
  refine W.adv 8 ?_
  obtain ⟨c11_0, c11_1, hc12, H⟩ := H
  refine W.callR (g := 44) (ds := [(.agg [.bool a0_0, .ints .u64 a0_1, .ints .u64 a0_2])]) (es := [(.agg [.bool a0_0, .ints .u64 a0_1, .ints .u64 a0_2])]) (r := (.agg [.bool c11_0, .ints .u64 c11_1])) (by kernel_rfl) (by kernel_rfl) (Ic.args hc12 (by kernel_rfl)) (by kernel_rfl) ?_
  refine W.adv 1 ?_
  obtain ⟨c13_0, c13_1, hc14, H⟩ := H
  refine W.callR (g := 44) (ds := [(.agg [.bool a1_0, .ints .u64 a1_1, .ints .u64 a1_2])]) (es := [(.agg [.bool a1_0, .ints .u64 a1_1, .ints .u64 a1_2])]) (r := (.agg [.bool c13_0, .ints .u64 c13_1])) (by kernel_rfl) (by kernel_rfl) (Ic.args hc14 (by kernel_rfl)) (by kernel_rfl) ?_
  obtain ⟨c15_0, c15_1, hc16, H⟩ := H
  refine W.callR (g := 43) (ds := [(.agg [.bool c11_0, .ints .u64 c11_1]), (.agg [.bool c13_0, .ints .u64 c13_1])]) (es := [(.agg [.bool c11_0, .ints .u64 c11_1]), (.agg [.bool c13_0, .ints .u64 c13_1])]) (r := (.agg [.bool c15_0, .ints .u64 c15_1])) (by kernel_rfl) (by kernel_rfl) (Ic.args hc16 (by kernel_rfl)) (by kernel_rfl) ?_
  obtain ⟨c17t0_0, c17t0_1, c17t0_2, c17t1, hc18, H⟩ := H
  refine W.callR (g := 48) (ds := [(.agg [.bool c9_0, .ints .u64 c9_1]), (.agg [.bool c15_0, .ints .u64 c15_1])]) (es := [(.agg [.bool c9_0, .ints .u64 c9_1]), (.agg [.bool c15_0, .ints .u64 c15_1])]) (r := (.tuple [(.agg [.bool c17t0_0, .ints .u64 c17t0_1, .ints .u64 c17t0_2]), .int .i64 c17t1])) (by kernel_rfl) (by kernel_rfl) (Ic.args hc18 (by kernel_rfl)) (by kernel_rfl) ?_
  refine W.adv 15 ?_
  exact W.fin (x := .ret) (by kernel_rfl) (Ans.of (d := (.agg [.bool c17t0_0, .ints .u64 c17t0_1, .ints .u64 c17t0_2])) (d' := (.agg [.bool c17t0_0, .ints .u64 c17t0_1, .ints .u64 c17t0_2])) (e' := (.agg [.bool c17t0_0, .ints .u64 c17t0_1, .ints .u64 c17t0_2])) (by kernel_rfl) (by kernel_rfl) (by kernel_rfl) (by rw [H.1, H.2.1, H.2.2]))
/-! ### trivium/rat.up -/
theorem rat_up_go {a0_0 : Bool} {a0_1 : List Int} {a0_2 : List Int} {z_0 : Bool} {z_1 : List Int} (H : (∃ c1_0 : Bool, (∃ c1_1 : List Int, (whole_Made_R false a0_2 c1_0 c1_1 ∧ (z_0 = c1_0 ∧ z_1 = c1_1))))) : rat_up_R a0_0 a0_1 a0_2 z_0 z_1 := by
  refine W.ic (zs := [(.agg [.bool a0_0, .ints .u64 a0_1, .ints .u64 a0_2])]) Tryz.func44 (by kernel_rfl) (by kernel_rfl) (by kernel_rfl) (by kernel_rfl) ?_
  refine W.adv 10 ?_
  obtain ⟨c1_0, c1_1, hc2, H⟩ := H
  refine W.callR (g := 71) (ds := [.bool false, .ints .u64 a0_2]) (es := [.bool false, .ints .u64 a0_2]) (r := (.agg [.bool c1_0, .ints .u64 c1_1])) (by kernel_rfl) (by kernel_rfl) (Ic.args hc2 (by kernel_rfl)) (by kernel_rfl) ?_
  refine W.adv 4 ?_
  exact W.fin (x := .ret) (by kernel_rfl) (Ans.of (d := (.agg [.bool c1_0, .ints .u64 c1_1])) (d' := (.agg [.bool c1_0, .ints .u64 c1_1])) (e' := (.agg [.bool c1_0, .ints .u64 c1_1])) (by kernel_rfl) (by kernel_rfl) (by kernel_rfl) (by rw [H.1, H.2]))
/-! ### trivium/rat.one -/
theorem rat_one_go {z : List Int} (H : (∃ c1 : List Int, (nat_Of_R 1 c1 ∧ (z = c1)))) : rat_one_R z := by
  refine W.ic (zs := []) Tryz.func46 (by kernel_rfl) (by kernel_rfl) (by kernel_rfl) (by kernel_rfl) ?_
  refine W.adv 7 ?_
  obtain ⟨c1, hc2, H⟩ := H
  refine W.callR (g := 74) (ds := [.int .u64 1]) (es := [.int .u64 1]) (r := (.ints .u64 c1)) (by kernel_rfl) (by kernel_rfl) (Ic.args hc2 (by kernel_rfl)) (by kernel_rfl) ?_
  refine W.adv 4 ?_
  exact W.fin (x := .ret) (by kernel_rfl) (Ans.of (d := (.ints .u64 c1)) (d' := (.ints .u64 c1)) (e' := (.ints .u64 c1)) (by kernel_rfl) (by kernel_rfl) (by kernel_rfl) (by rw [H]))
/-! ### trivium/rat.Make -/
theorem rat_Make_go {a0_0 : Bool} {a0_1 : List Int} {a1_0 : Bool} {a1_1 : List Int} {zt0_0 : Bool} {zt0_1 : List Int} {zt0_2 : List Int} {zt1 : Int} (H : (∃ c1 : Int, (whole_Sign_R a1_0 a1_1 c1 ∧ ((c1 = 0 ∧ (zt0_0 = false ∧ zt0_1 = [] ∧ zt0_2 = [] ∧ zt1 = 3)) ∨ (¬ c1 = 0 ∧ (∃ c4_0 : Bool, (∃ c4_1 : List Int, (whole_Made_R (!(a0_0 == a1_0)) a0_1 c4_0 c4_1 ∧ (∃ c6_0 : Bool, (∃ c6_1 : List Int, (∃ c6_2 : List Int, (rat_low_R c4_0 c4_1 a1_1 c6_0 c6_1 c6_2 ∧ (zt0_0 = c6_0 ∧ zt0_1 = c6_1 ∧ zt0_2 = c6_2 ∧ zt1 = 0))))))))))))) : rat_Make_R a0_0 a0_1 a1_0 a1_1 zt0_0 zt0_1 zt0_2 zt1 := by
  refine W.ic (zs := [(.agg [.bool a0_0, .ints .u64 a0_1]), (.agg [.bool a1_0, .ints .u64 a1_1])]) Tryz.func48 (by kernel_rfl) (by kernel_rfl) (by kernel_rfl) (by kernel_rfl) ?_
  refine W.adv 12 ?_
  obtain ⟨c1, hc2, H⟩ := H
  refine W.callR (g := 69) (ds := [(.agg [.bool a1_0, .ints .u64 a1_1])]) (es := [(.agg [.bool a1_0, .ints .u64 a1_1])]) (r := (.int .i64 c1)) (by kernel_rfl) (by kernel_rfl) (Ic.args hc2 (by kernel_rfl)) (by kernel_rfl) ?_
  refine W.adv 3 ?_
  rcases H with ⟨h3, H⟩ | ⟨h3, H⟩
  · refine W.cond true (w := (decide (c1 = 0))) (by kernel_rfl) (decide_eq_true h3) ?_
    refine W.adv 9 ?_
    exact W.fin (x := .ret) (by kernel_rfl) (Ans.of (d := (.tuple [(.agg [.bool false, .nilS, .nilS]), .int .i64 3])) (d' := (.tuple [(.agg [.bool false, .nilS, .nilS]), .int .i64 3])) (e' := (.tuple [(.agg [.bool false, .ints .u64 [], .ints .u64 []]), .int .i64 3])) (by kernel_rfl) (by kernel_rfl) (by kernel_rfl) (by rw [H.1, H.2.1, H.2.2.1, H.2.2.2]))
  · refine W.cond false (w := (decide (c1 = 0))) (by kernel_rfl) (decide_eq_false h3) ?_
    refine W.adv 11 ?_
    obtain ⟨c4_0, c4_1, hc5, H⟩ := H
    refine W.callR (g := 71) (ds := [(.bool (!(a0_0 == a1_0))), .ints .u64 a0_1]) (es := [(.bool (!(a0_0 == a1_0))), .ints .u64 a0_1]) (r := (.agg [.bool c4_0, .ints .u64 c4_1])) (by kernel_rfl) (by kernel_rfl) (Ic.args hc5 (by kernel_rfl)) (by kernel_rfl) ?_
    refine W.adv 2 ?_
    obtain ⟨c6_0, c6_1, c6_2, hc7, H⟩ := H
    refine W.callR (g := 76) (ds := [(.agg [.bool c4_0, .ints .u64 c4_1]), .ints .u64 a1_1]) (es := [(.agg [.bool c4_0, .ints .u64 c4_1]), .ints .u64 a1_1]) (r := (.agg [.bool c6_0, .ints .u64 c6_1, .ints .u64 c6_2])) (by kernel_rfl) (by kernel_rfl) (Ic.args hc7 (by kernel_rfl)) (by kernel_rfl) ?_
    refine W.adv 5 ?_
    exact W.fin (x := .ret) (by kernel_rfl) (Ans.of (d := (.tuple [(.agg [.bool c6_0, .ints .u64 c6_1, .ints .u64 c6_2]), .int .i64 0])) (d' := (.tuple [(.agg [.bool c6_0, .ints .u64 c6_1, .ints .u64 c6_2]), .int .i64 0])) (e' := (.tuple [(.agg [.bool c6_0, .ints .u64 c6_1, .ints .u64 c6_2]), .int .i64 0])) (by kernel_rfl) (by kernel_rfl) (by kernel_rfl) (by rw [H.1, H.2.1, H.2.2.1, H.2.2.2]))
/-! ### trivium/rat.Div -/
theorem rat_Div_go {a0_0 : Bool} {a0_1 : List Int} {a0_2 : List Int} {a1_0 : Bool} {a1_1 : List Int} {a1_2 : List Int} {zt0_0 : Bool} {zt0_1 : List Int} {zt0_2 : List Int} {zt1 : Int} (H : (∃ c1t0_0 : Bool, (∃ c1t0_1 : List Int, (∃ c1t0_2 : List Int, (∃ c1t1 : Int, (rat_Inv_R a1_0 a1_1 a1_2 c1t0_0 c1t0_1 c1t0_2 c1t1 ∧ ((c1t1 = 0 ∧ (∃ c4_0 : Bool, (∃ c4_1 : List Int, (∃ c4_2 : List Int, (rat_Mul_R a0_0 a0_1 a0_2 c1t0_0 c1t0_1 c1t0_2 c4_0 c4_1 c4_2 ∧ (zt0_0 = c4_0 ∧ zt0_1 = c4_1 ∧ zt0_2 = c4_2 ∧ zt1 = c1t1)))))) ∨ (¬ c1t1 = 0 ∧ (zt0_0 = false ∧ zt0_1 = [] ∧ zt0_2 = [] ∧ zt1 = c1t1))))))))) : rat_Div_R a0_0 a0_1 a0_2 a1_0 a1_1 a1_2 zt0_0 zt0_1 zt0_2 zt1 := by
  refine W.ic (zs := [(.agg [.bool a0_0, .ints .u64 a0_1, .ints .u64 a0_2]), (.agg [.bool a1_0, .ints .u64 a1_1, .ints .u64 a1_2])]) Tryz.func53 (by kernel_rfl) (by kernel_rfl) (by kernel_rfl) (by kernel_rfl) ?_
  refine W.adv 11 ?_
  obtain ⟨c1t0_0, c1t0_1, c1t0_2, c1t1, hc2, H⟩ := H
  refine W.callR (g := 78) (ds := [(.agg [.bool a1_0, .ints .u64 a1_1, .ints .u64 a1_2])]) (es := [(.agg [.bool a1_0, .ints .u64 a1_1, .ints .u64 a1_2])]) (r := (.tuple [(.agg [.bool c1t0_0, .ints .u64 c1t0_1, .ints .u64 c1t0_2]), .int .i64 c1t1])) (by kernel_rfl) (by kernel_rfl) (Ic.args hc2 (by kernel_rfl)) (by kernel_rfl) ?_
  refine W.adv 15 ?_
  rcases H with ⟨h3, H⟩ | ⟨h3, H⟩
  · refine W.cond false (w := (!(decide (c1t1 = 0)))) (by kernel_rfl) (congrArg (fun b => !b) (decide_eq_true h3)) ?_
    refine W.adv 6 ?_
    obtain ⟨c4_0, c4_1, c4_2, hc5, H⟩ := H
    refine W.callR (g := 79) (ds := [(.agg [.bool a0_0, .ints .u64 a0_1, .ints .u64 a0_2]), (.agg [.bool c1t0_0, .ints .u64 c1t0_1, .ints .u64 c1t0_2])]) (es := [(.agg [.bool a0_0, .ints .u64 a0_1, .ints .u64 a0_2]), (.agg [.bool c1t0_0, .ints .u64 c1t0_1, .ints .u64 c1t0_2])]) (r := (.agg [.bool c4_0, .ints .u64 c4_1, .ints .u64 c4_2])) (by kernel_rfl) (by kernel_rfl) (Ic.args hc5 (by kernel_rfl)) (by kernel_rfl) ?_
    refine W.adv 6 ?_
    exact W.fin (x := .ret) (by kernel_rfl) (Ans.of (d := (.tuple [(.agg [.bool c4_0, .ints .u64 c4_1, .ints .u64 c4_2]), .int .i64 c1t1])) (d' := (.tuple [(.agg [.bool c4_0, .ints .u64 c4_1, .ints .u64 c4_2]), .int .i64 c1t1])) (e' := (.tuple [(.agg [.bool c4_0, .ints .u64 c4_1, .ints .u64 c4_2]), .int .i64 c1t1])) (by kernel_rfl) (by kernel_rfl) (by kernel_rfl) (by rw [H.1, H.2.1, H.2.2.1, H.2.2.2]))
  · refine W.cond true (w := (!(decide (c1t1 = 0)))) (by kernel_rfl) (congrArg (fun b => !b) (decide_eq_false h3)) ?_
    refine W.adv 10 ?_
    exact W.fin (x := .ret) (by kernel_rfl) (Ans.of (d := (.tuple [(.agg [.bool false, .nilS, .nilS]), .int .i64 c1t1])) (d' := (.tuple [(.agg [.bool false, .nilS, .nilS]), .int .i64 c1t1])) (e' := (.tuple [(.agg [.bool false, .ints .u64 [], .ints .u64 []]), .int .i64 c1t1])) (by kernel_rfl) (by kernel_rfl) (by kernel_rfl) (by rw [H.1, H.2.1, H.2.2.1, H.2.2.2]))
/-! ### trivium/rat.Sign -/
theorem rat_Sign_go {a0_0 : Bool} {a0_1 : List Int} {a0_2 : List Int} {z : Int} (H : (∃ c1 : Int, (whole_Sign_R a0_0 a0_1 c1 ∧ (z = c1)))) : rat_Sign_R a0_0 a0_1 a0_2 z := by
  refine W.ic (zs := [(.agg [.bool a0_0, .ints .u64 a0_1, .ints .u64 a0_2])]) Tryz.func54 (by kernel_rfl) (by kernel_rfl) (by kernel_rfl) (by kernel_rfl) ?_
  refine W.adv 10 ?_
  obtain ⟨c1, hc2, H⟩ := H
  refine W.callR (g := 69) (ds := [(.agg [.bool a0_0, .ints .u64 a0_1])]) (es := [(.agg [.bool a0_0, .ints .u64 a0_1])]) (r := (.int .i64 c1)) (by kernel_rfl) (by kernel_rfl) (Ic.args hc2 (by kernel_rfl)) (by kernel_rfl) ?_
  refine W.adv 4 ?_
  exact W.fin (x := .ret) (by kernel_rfl) (Ans.of (d := (.int .i64 c1)) (d' := (.int .i64 c1)) (e' := (.int .i64 c1)) (by kernel_rfl) (by kernel_rfl) (by kernel_rfl) (by rw [H]))
/-! ### trivium/rat.One -/
theorem rat_One_go {a0_0 : Bool} {a0_1 : List Int} {a0_2 : List Int} {z : Bool} (H : (∃ c1_0 : Bool, (∃ c1_1 : List Int, (∃ c1_2 : List Int, (rat_Of_R 1 c1_0 c1_1 c1_2 ∧ (∃ c3 : Bool, (rat_Same_R a0_0 a0_1 a0_2 c1_0 c1_1 c1_2 c3 ∧ (z = c3)))))))) : rat_One_R a0_0 a0_1 a0_2 z := by
  refine W.ic (zs := [(.agg [.bool a0_0, .ints .u64 a0_1, .ints .u64 a0_2])]) Tryz.func55 (by kernel_rfl) (by kernel_rfl) (by kernel_rfl) (by kernel_rfl) ?_
  refine W.adv 9 ?_
  obtain ⟨c1_0, c1_1, c1_2, hc2, H⟩ := H
  refine W.callR (g := 19) (ds := [.int .i64 1]) (es := [.int .i64 1]) (r := (.agg [.bool c1_0, .ints .u64 c1_1, .ints .u64 c1_2])) (by kernel_rfl) (by kernel_rfl) (Ic.args hc2 (by kernel_rfl)) (by kernel_rfl) ?_
  obtain ⟨c3, hc4, H⟩ := H
  refine W.callR (g := 80) (ds := [(.agg [.bool a0_0, .ints .u64 a0_1, .ints .u64 a0_2]), (.agg [.bool c1_0, .ints .u64 c1_1, .ints .u64 c1_2])]) (es := [(.agg [.bool a0_0, .ints .u64 a0_1, .ints .u64 a0_2]), (.agg [.bool c1_0, .ints .u64 c1_1, .ints .u64 c1_2])]) (r := (.bool c3)) (by kernel_rfl) (by kernel_rfl) (Ic.args hc4 (by kernel_rfl)) (by kernel_rfl) ?_
  refine W.adv 4 ?_
  exact W.fin (x := .ret) (by kernel_rfl) (Ans.of (d := (.bool c3)) (d' := (.bool c3)) (e' := (.bool c3)) (by kernel_rfl) (by kernel_rfl) (by kernel_rfl) (by rw [H]))
/-! ### trivium/rat.low -/
theorem rat_low_go {a0_0 : Bool} {a0_1 : List Int} {a1 : List Int} {z_0 : Bool} {z_1 : List Int} {z_2 : List Int} (H : (∃ c1 : List Int, (gcd_Euclid_R a0_1 a1 c1 ∧ (∃ c3t0 : List Int, (∃ c3t1 : Int, (divide_Exact_R a0_1 c1 c3t0 c3t1 ∧ (∃ c5t0 : List Int, (∃ c5t1 : Int, (divide_Exact_R a1 c1 c5t0 c5t1 ∧ (∃ c7_0 : Bool, (∃ c7_1 : List Int, (whole_Made_R a0_0 c3t0 c7_0 c7_1 ∧ (z_0 = c7_0 ∧ z_1 = c7_1 ∧ z_2 = c5t0))))))))))))) : rat_low_R a0_0 a0_1 a1 z_0 z_1 z_2 := by
  refine W.ic (zs := [(.agg [.bool a0_0, .ints .u64 a0_1]), .ints .u64 a1]) Tryz.func76 (by kernel_rfl) (by kernel_rfl) (by kernel_rfl) (by kernel_rfl) ?_
  refine W.adv 11 ?_
  obtain ⟨c1, hc2, H⟩ := H
  refine W.callR (g := 89) (ds := [.ints .u64 a0_1, .ints .u64 a1]) (es := [.ints .u64 a0_1, .ints .u64 a1]) (r := (.ints .u64 c1)) (by kernel_rfl) (by kernel_rfl) (Ic.args hc2 (by kernel_rfl)) (by kernel_rfl) ?_
  refine W.adv 8 ?_
  obtain ⟨c3t0, c3t1, hc4, H⟩ := H
  refine W.callR (g := 90) (ds := [.ints .u64 a0_1, .ints .u64 c1]) (es := [.ints .u64 a0_1, .ints .u64 c1]) (r := (.tuple [.ints .u64 c3t0, .int .i64 c3t1])) (by kernel_rfl) (by kernel_rfl) (Ic.args hc4 (by kernel_rfl)) (by kernel_rfl) ?_
  refine W.adv 11 ?_
  obtain ⟨c5t0, c5t1, hc6, H⟩ := H
  refine W.callR (g := 90) (ds := [.ints .u64 a1, .ints .u64 c1]) (es := [.ints .u64 a1, .ints .u64 c1]) (r := (.tuple [.ints .u64 c5t0, .int .i64 c5t1])) (by kernel_rfl) (by kernel_rfl) (Ic.args hc6 (by kernel_rfl)) (by kernel_rfl) ?_
  refine W.adv 12 ?_
  obtain ⟨c7_0, c7_1, hc8, H⟩ := H
  refine W.callR (g := 71) (ds := [.bool a0_0, .ints .u64 c3t0]) (es := [.bool a0_0, .ints .u64 c3t0]) (r := (.agg [.bool c7_0, .ints .u64 c7_1])) (by kernel_rfl) (by kernel_rfl) (Ic.args hc8 (by kernel_rfl)) (by kernel_rfl) ?_
  refine W.adv 6 ?_
  exact W.fin (x := .ret) (by kernel_rfl) (Ans.of (d := (.agg [.bool c7_0, .ints .u64 c7_1, .ints .u64 c5t0])) (d' := (.agg [.bool c7_0, .ints .u64 c7_1, .ints .u64 c5t0])) (e' := (.agg [.bool c7_0, .ints .u64 c7_1, .ints .u64 c5t0])) (by kernel_rfl) (by kernel_rfl) (by kernel_rfl) (by rw [H.1, H.2.1, H.2.2]))
/-! ### trivium/rat.Neg -/
theorem rat_Neg_go {a0_0 : Bool} {a0_1 : List Int} {a0_2 : List Int} {z_0 : Bool} {z_1 : List Int} {z_2 : List Int} (H : (∃ c1_0 : Bool, (∃ c1_1 : List Int, (whole_Neg_R a0_0 a0_1 c1_0 c1_1 ∧ (∃ c3_0 : Bool, (∃ c3_1 : List Int, (rat_up_R a0_0 a0_1 a0_2 c3_0 c3_1 ∧ (z_0 = c1_0 ∧ z_1 = c1_1 ∧ z_2 = c3_1)))))))) : rat_Neg_R a0_0 a0_1 a0_2 z_0 z_1 z_2 := by
  refine W.ic (zs := [(.agg [.bool a0_0, .ints .u64 a0_1, .ints .u64 a0_2])]) Tryz.func77 (by kernel_rfl) (by kernel_rfl) (by kernel_rfl) (by kernel_rfl) ?_
  refine W.adv 10 ?_
  obtain ⟨c1_0, c1_1, hc2, H⟩ := H
  refine W.callR (g := 91) (ds := [(.agg [.bool a0_0, .ints .u64 a0_1])]) (es := [(.agg [.bool a0_0, .ints .u64 a0_1])]) (r := (.agg [.bool c1_0, .ints .u64 c1_1])) (by kernel_rfl) (by kernel_rfl) (Ic.args hc2 (by kernel_rfl)) (by kernel_rfl) ?_
  refine W.adv 1 ?_
  obtain ⟨c3_0, c3_1, hc4, H⟩ := H
  refine W.callR (g := 44) (ds := [(.agg [.bool a0_0, .ints .u64 a0_1, .ints .u64 a0_2])]) (es := [(.agg [.bool a0_0, .ints .u64 a0_1, .ints .u64 a0_2])]) (r := (.agg [.bool c3_0, .ints .u64 c3_1])) (by kernel_rfl) (by kernel_rfl) (Ic.args hc4 (by kernel_rfl)) (by kernel_rfl) ?_
  refine W.adv 6 ?_
  exact W.fin (x := .ret) (by kernel_rfl) (Ans.of (d := (.agg [.bool c1_0, .ints .u64 c1_1, .ints .u64 c3_1])) (d' := (.agg [.bool c1_0, .ints .u64 c1_1, .ints .u64 c3_1])) (e' := (.agg [.bool c1_0, .ints .u64 c1_1, .ints .u64 c3_1])) (by kernel_rfl) (by kernel_rfl) (by kernel_rfl) (by rw [H.1, H.2.1, H.2.2]))
/-! ### trivium/rat.Inv -/
theorem rat_Inv_go {a0_0 : Bool} {a0_1 : List Int} {a0_2 : List Int} {zt0_0 : Bool} {zt0_1 : List Int} {zt0_2 : List Int} {zt1 : Int} (H : (∃ c1_0 : Bool, (∃ c1_1 : List Int, (rat_up_R a0_0 a0_1 a0_2 c1_0 c1_1 ∧ (∃ c3t0_0 : Bool, (∃ c3t0_1 : List Int, (∃ c3t0_2 : List Int, (∃ c3t1 : Int, (rat_Make_R c1_0 c1_1 a0_0 a0_1 c3t0_0 c3t0_1 c3t0_2 c3t1 ∧ (zt0_0 = c3t0_0 ∧ zt0_1 = c3t0_1 ∧ zt0_2 = c3t0_2 ∧ zt1 = c3t1)))))))))) : rat_Inv_R a0_0 a0_1 a0_2 zt0_0 zt0_1 zt0_2 zt1 := by
  refine W.ic (zs := [(.agg [.bool a0_0, .ints .u64 a0_1, .ints .u64 a0_2])]) Tryz.func78 (by kernel_rfl) (by kernel_rfl) (by kernel_rfl) (by kernel_rfl) ?_
  refine W.adv 10 ?_
  obtain ⟨c1_0, c1_1, hc2, H⟩ := H
  refine W.callR (g := 44) (ds := [(.agg [.bool a0_0, .ints .u64 a0_1, .ints .u64 a0_2])]) (es := [(.agg [.bool a0_0, .ints .u64 a0_1, .ints .u64 a0_2])]) (r := (.agg [.bool c1_0, .ints .u64 c1_1])) (by kernel_rfl) (by kernel_rfl) (Ic.args hc2 (by kernel_rfl)) (by kernel_rfl) ?_
  refine W.adv 2 ?_
  obtain ⟨c3t0_0, c3t0_1, c3t0_2, c3t1, hc4, H⟩ := H
  refine W.callR (g := 48) (ds := [(.agg [.bool c1_0, .ints .u64 c1_1]), (.agg [.bool a0_0, .ints .u64 a0_1])]) (es := [(.agg [.bool c1_0, .ints .u64 c1_1]), (.agg [.bool a0_0, .ints .u64 a0_1])]) (r := (.tuple [(.agg [.bool c3t0_0, .ints .u64 c3t0_1, .ints .u64 c3t0_2]), .int .i64 c3t1])) (by kernel_rfl) (by kernel_rfl) (Ic.args hc4 (by kernel_rfl)) (by kernel_rfl) ?_
  refine W.adv 7 ?_
  exact W.fin (x := .ret) (by kernel_rfl) (Ans.of (d := (.tuple [(.agg [.bool c3t0_0, .ints .u64 c3t0_1, .ints .u64 c3t0_2]), .int .i64 c3t1])) (d' := (.tuple [(.agg [.bool c3t0_0, .ints .u64 c3t0_1, .ints .u64 c3t0_2]), .int .i64 c3t1])) (e' := (.tuple [(.agg [.bool c3t0_0, .ints .u64 c3t0_1, .ints .u64 c3t0_2]), .int .i64 c3t1])) (by kernel_rfl) (by kernel_rfl) (by kernel_rfl) (by rw [H.1, H.2.1, H.2.2.1, H.2.2.2]))
/-! ### trivium/rat.Mul -/
theorem rat_Mul_go {a0_0 : Bool} {a0_1 : List Int} {a0_2 : List Int} {a1_0 : Bool} {a1_1 : List Int} {a1_2 : List Int} {z_0 : Bool} {z_1 : List Int} {z_2 : List Int} (H : (∃ c1_0 : Bool, (∃ c1_1 : List Int, (whole_Mul_R a0_0 a0_1 a1_0 a1_1 c1_0 c1_1 ∧ (∃ c3_0 : Bool, (∃ c3_1 : List Int, (rat_up_R a0_0 a0_1 a0_2 c3_0 c3_1 ∧ (∃ c5_0 : Bool, (∃ c5_1 : List Int, (rat_up_R a1_0 a1_1 a1_2 c5_0 c5_1 ∧ (∃ c7_0 : Bool, (∃ c7_1 : List Int, (whole_Mul_R c3_0 c3_1 c5_0 c5_1 c7_0 c7_1 ∧ (∃ c9t0_0 : Bool, (∃ c9t0_1 : List Int, (∃ c9t0_2 : List Int, (∃ c9t1 : Int, (rat_Make_R c1_0 c1_1 c7_0 c7_1 c9t0_0 c9t0_1 c9t0_2 c9t1 ∧ (z_0 = c9t0_0 ∧ z_1 = c9t0_1 ∧ z_2 = c9t0_2))))))))))))))))))) : rat_Mul_R a0_0 a0_1 a0_2 a1_0 a1_1 a1_2 z_0 z_1 z_2 := by
  refine W.ic (zs := [(.agg [.bool a0_0, .ints .u64 a0_1, .ints .u64 a0_2]), (.agg [.bool a1_0, .ints .u64 a1_1, .ints .u64 a1_2])]) Tryz.func79 (by kernel_rfl) (by kernel_rfl) (by kernel_rfl) (by kernel_rfl) ?_
  refine W.adv 13 ?_
  obtain ⟨c1_0, c1_1, hc2, H⟩ := H
  refine W.callR (g := 43) (ds := [(.agg [.bool a0_0, .ints .u64 a0_1]), (.agg [.bool a1_0, .ints .u64 a1_1])]) (es := [(.agg [.bool a0_0, .ints .u64 a0_1]), (.agg [.bool a1_0, .ints .u64 a1_1])]) (r := (.agg [.bool c1_0, .ints .u64 c1_1])) (by kernel_rfl) (by kernel_rfl) (Ic.args hc2 (by kernel_rfl)) (by kernel_rfl) ?_
  refine W.adv 1 ?_
  obtain ⟨c3_0, c3_1, hc4, H⟩ := H
  refine W.callR (g := 44) (ds := [(.agg [.bool a0_0, .ints .u64 a0_1, .ints .u64 a0_2])]) (es := [(.agg [.bool a0_0, .ints .u64 a0_1, .ints .u64 a0_2])]) (r := (.agg [.bool c3_0, .ints .u64 c3_1])) (by kernel_rfl) (by kernel_rfl) (Ic.args hc4 (by kernel_rfl)) (by kernel_rfl) ?_
  refine W.adv 1 ?_
  obtain ⟨c5_0, c5_1, hc6, H⟩ := H
  refine W.callR (g := 44) (ds := [(.agg [.bool a1_0, .ints .u64 a1_1, .ints .u64 a1_2])]) (es := [(.agg [.bool a1_0, .ints .u64 a1_1, .ints .u64 a1_2])]) (r := (.agg [.bool c5_0, .ints .u64 c5_1])) (by kernel_rfl) (by kernel_rfl) (Ic.args hc6 (by kernel_rfl)) (by kernel_rfl) ?_
  obtain ⟨c7_0, c7_1, hc8, H⟩ := H
  refine W.callR (g := 43) (ds := [(.agg [.bool c3_0, .ints .u64 c3_1]), (.agg [.bool c5_0, .ints .u64 c5_1])]) (es := [(.agg [.bool c3_0, .ints .u64 c3_1]), (.agg [.bool c5_0, .ints .u64 c5_1])]) (r := (.agg [.bool c7_0, .ints .u64 c7_1])) (by kernel_rfl) (by kernel_rfl) (Ic.args hc8 (by kernel_rfl)) (by kernel_rfl) ?_
  obtain ⟨c9t0_0, c9t0_1, c9t0_2, c9t1, hc10, H⟩ := H
  refine W.callR (g := 48) (ds := [(.agg [.bool c1_0, .ints .u64 c1_1]), (.agg [.bool c7_0, .ints .u64 c7_1])]) (es := [(.agg [.bool c1_0, .ints .u64 c1_1]), (.agg [.bool c7_0, .ints .u64 c7_1])]) (r := (.tuple [(.agg [.bool c9t0_0, .ints .u64 c9t0_1, .ints .u64 c9t0_2]), .int .i64 c9t1])) (by kernel_rfl) (by kernel_rfl) (Ic.args hc10 (by kernel_rfl)) (by kernel_rfl) ?_
  refine W.adv 15 ?_
  exact W.fin (x := .ret) (by kernel_rfl) (Ans.of (d := (.agg [.bool c9t0_0, .ints .u64 c9t0_1, .ints .u64 c9t0_2])) (d' := (.agg [.bool c9t0_0, .ints .u64 c9t0_1, .ints .u64 c9t0_2])) (e' := (.agg [.bool c9t0_0, .ints .u64 c9t0_1, .ints .u64 c9t0_2])) (by kernel_rfl) (by kernel_rfl) (by kernel_rfl) (by rw [H.1, H.2.1, H.2.2]))
/-! ### trivium/rat.Same -/
theorem rat_Same_go {a0_0 : Bool} {a0_1 : List Int} {a0_2 : List Int} {a1_0 : Bool} {a1_1 : List Int} {a1_2 : List Int} {z : Bool} (H : ((a0_0 = true ∧ ((a1_0 = true ∧ (∃ c3 : Int, (nat_Cmp_R a0_1 a1_1 c3 ∧ ((c3 = 0 ∧ (∃ c6 : Int, (nat_Cmp_R a0_2 a1_2 c6 ∧ (z = (decide (c6 = 0)))))) ∨ (¬ c3 = 0 ∧ (z = false)))))) ∨ (¬ a1_0 = true ∧ (z = false)))) ∨ (¬ a0_0 = true ∧ ((a1_0 = true ∧ (z = false)) ∨ (¬ a1_0 = true ∧ (∃ c9 : Int, (nat_Cmp_R a0_1 a1_1 c9 ∧ ((c9 = 0 ∧ (∃ c12 : Int, (nat_Cmp_R a0_2 a1_2 c12 ∧ (z = (decide (c12 = 0)))))) ∨ (¬ c9 = 0 ∧ (z = false)))))))))) : rat_Same_R a0_0 a0_1 a0_2 a1_0 a1_1 a1_2 z := by
  refine W.ic (zs := [(.agg [.bool a0_0, .ints .u64 a0_1, .ints .u64 a0_2]), (.agg [.bool a1_0, .ints .u64 a1_1, .ints .u64 a1_2])]) Tryz.func80 (by kernel_rfl) (by kernel_rfl) (by kernel_rfl) (by kernel_rfl) ?_
  refine W.adv 17 ?_
  rcases H with ⟨h1, H⟩ | ⟨h1, H⟩
  · rcases H with ⟨h2, H⟩ | ⟨h2, H⟩
    · refine W.guard true (w := ((a0_0 == a1_0) == true)) (by kernel_rfl) (congrArg (fun b => b == true) (congr (congrArg (fun x y => x == y) h1) h2)) ?_
      refine W.adv 1 ?_
      refine W.guard true (w := ((a0_0 == a1_0) == true)) (by kernel_rfl) (congrArg (fun b => b == true) (congr (congrArg (fun x y => x == y) h1) h2)) ?_
      refine W.adv 1 ?_
      refine W.guard true (w := ((a0_0 == a1_0) == true)) (by kernel_rfl) (congrArg (fun b => b == true) (congr (congrArg (fun x y => x == y) h1) h2)) ?_
      refine W.adv 1 ?_
      refine W.guard true (w := ((a0_0 == a1_0) == true)) (by kernel_rfl) (congrArg (fun b => b == true) (congr (congrArg (fun x y => x == y) h1) h2)) ?_
      refine W.adv 1 ?_
      refine W.guard true (w := ((a0_0 == a1_0) == true)) (by kernel_rfl) (congrArg (fun b => b == true) (congr (congrArg (fun x y => x == y) h1) h2)) ?_
      refine W.adv 1 ?_
      refine W.guard true (w := ((a0_0 == a1_0) == true)) (by kernel_rfl) (congrArg (fun b => b == true) (congr (congrArg (fun x y => x == y) h1) h2)) ?_
      refine W.adv 1 ?_
      refine W.guard true (w := ((a0_0 == a1_0) == true)) (by kernel_rfl) (congrArg (fun b => b == true) (congr (congrArg (fun x y => x == y) h1) h2)) ?_
      obtain ⟨c3, hc4, H⟩ := H
      refine W.callR (g := 70) (ds := [.ints .u64 a0_1, .ints .u64 a1_1]) (es := [.ints .u64 a0_1, .ints .u64 a1_1]) (r := (.int .i64 c3)) (by kernel_rfl) (by kernel_rfl) (Ic.args hc4 (by kernel_rfl)) (by kernel_rfl) ?_
      refine W.guard true (w := ((a0_0 == a1_0) == true)) (by kernel_rfl) (congrArg (fun b => b == true) (congr (congrArg (fun x y => x == y) h1) h2)) ?_
      refine W.adv 1 ?_
      refine W.opS (OpIs.pk true (t := (a0_0 == a1_0)) (x := (.bool (decide (c3 = 0)))) (y := (.bool false)) (by kernel_rfl) (congr (congrArg (fun x y => x == y) h1) h2)) ?_
      refine W.adv 1 ?_
      rcases H with ⟨h5, H⟩ | ⟨h5, H⟩
      · refine W.guard true (w := ((decide (c3 = 0)) == true)) (by kernel_rfl) (congrArg (fun b => b == true) (decide_eq_true h5)) ?_
        refine W.adv 1 ?_
        refine W.guard true (w := ((decide (c3 = 0)) == true)) (by kernel_rfl) (congrArg (fun b => b == true) (decide_eq_true h5)) ?_
        refine W.adv 1 ?_
        refine W.guard true (w := ((decide (c3 = 0)) == true)) (by kernel_rfl) (congrArg (fun b => b == true) (decide_eq_true h5)) ?_
        refine W.adv 1 ?_
        refine W.guard true (w := ((decide (c3 = 0)) == true)) (by kernel_rfl) (congrArg (fun b => b == true) (decide_eq_true h5)) ?_
        refine W.adv 1 ?_
        refine W.guard true (w := ((decide (c3 = 0)) == true)) (by kernel_rfl) (congrArg (fun b => b == true) (decide_eq_true h5)) ?_
        obtain ⟨c6, hc7, H⟩ := H
        refine W.callR (g := 70) (ds := [.ints .u64 a0_2, .ints .u64 a1_2]) (es := [.ints .u64 a0_2, .ints .u64 a1_2]) (r := (.int .i64 c6)) (by kernel_rfl) (by kernel_rfl) (Ic.args hc7 (by kernel_rfl)) (by kernel_rfl) ?_
        refine W.guard true (w := ((decide (c3 = 0)) == true)) (by kernel_rfl) (congrArg (fun b => b == true) (decide_eq_true h5)) ?_
        refine W.adv 1 ?_
        refine W.opS (OpIs.pk true (t := (decide (c3 = 0))) (x := (.bool (decide (c6 = 0)))) (y := (.bool false)) (by kernel_rfl) (decide_eq_true h5)) ?_
        refine W.adv 4 ?_
        exact W.fin (x := .ret) (by kernel_rfl) (Ans.of (d := (.bool (decide (c6 = 0)))) (d' := (.bool (decide (c6 = 0)))) (e' := (.bool (decide (c6 = 0)))) (by kernel_rfl) (by kernel_rfl) (by kernel_rfl) (by rw [H]))
      · refine W.guard false (w := ((decide (c3 = 0)) == true)) (by kernel_rfl) (congrArg (fun b => b == true) (decide_eq_false h5)) ?_
        refine W.guard false (w := ((decide (c3 = 0)) == true)) (by kernel_rfl) (congrArg (fun b => b == true) (decide_eq_false h5)) ?_
        refine W.guard false (w := ((decide (c3 = 0)) == true)) (by kernel_rfl) (congrArg (fun b => b == true) (decide_eq_false h5)) ?_
        refine W.guard false (w := ((decide (c3 = 0)) == true)) (by kernel_rfl) (congrArg (fun b => b == true) (decide_eq_false h5)) ?_
        refine W.guard false (w := ((decide (c3 = 0)) == true)) (by kernel_rfl) (congrArg (fun b => b == true) (decide_eq_false h5)) ?_
        refine W.guard false (w := ((decide (c3 = 0)) == true)) (by kernel_rfl) (congrArg (fun b => b == true) (decide_eq_false h5)) ?_
        refine W.opS (OpIs.pk false (t := (decide (c3 = 0))) (x := (.tuple [])) (y := (.bool false)) (by kernel_rfl) (decide_eq_false h5)) ?_
        refine W.adv 4 ?_
        exact W.fin (x := .ret) (by kernel_rfl) (Ans.of (d := (.bool false)) (d' := (.bool false)) (e' := (.bool false)) (by kernel_rfl) (by kernel_rfl) (by kernel_rfl) (by rw [H]))
    · refine W.guard false (w := ((a0_0 == a1_0) == true)) (by kernel_rfl) (congrArg (fun b => b == true) (congr (congrArg (fun x y => x == y) h1) (bfalse h2))) ?_
      refine W.guard false (w := ((a0_0 == a1_0) == true)) (by kernel_rfl) (congrArg (fun b => b == true) (congr (congrArg (fun x y => x == y) h1) (bfalse h2))) ?_
      refine W.guard false (w := ((a0_0 == a1_0) == true)) (by kernel_rfl) (congrArg (fun b => b == true) (congr (congrArg (fun x y => x == y) h1) (bfalse h2))) ?_
      refine W.guard false (w := ((a0_0 == a1_0) == true)) (by kernel_rfl) (congrArg (fun b => b == true) (congr (congrArg (fun x y => x == y) h1) (bfalse h2))) ?_
      refine W.guard false (w := ((a0_0 == a1_0) == true)) (by kernel_rfl) (congrArg (fun b => b == true) (congr (congrArg (fun x y => x == y) h1) (bfalse h2))) ?_
      refine W.guard false (w := ((a0_0 == a1_0) == true)) (by kernel_rfl) (congrArg (fun b => b == true) (congr (congrArg (fun x y => x == y) h1) (bfalse h2))) ?_
      refine W.guard false (w := ((a0_0 == a1_0) == true)) (by kernel_rfl) (congrArg (fun b => b == true) (congr (congrArg (fun x y => x == y) h1) (bfalse h2))) ?_
      refine W.guard false (w := ((a0_0 == a1_0) == true)) (by kernel_rfl) (congrArg (fun b => b == true) (congr (congrArg (fun x y => x == y) h1) (bfalse h2))) ?_
      refine W.opS (OpIs.pk false (t := (a0_0 == a1_0)) (x := (.tuple [])) (y := (.bool false)) (by kernel_rfl) (congr (congrArg (fun x y => x == y) h1) (bfalse h2))) ?_
      refine W.adv 12 ?_
      exact W.fin (x := .ret) (by kernel_rfl) (Ans.of (d := (.bool false)) (d' := (.bool false)) (e' := (.bool false)) (by kernel_rfl) (by kernel_rfl) (by kernel_rfl) (by rw [H]))
  · rcases H with ⟨h8, H⟩ | ⟨h8, H⟩
    · refine W.guard false (w := ((a0_0 == a1_0) == true)) (by kernel_rfl) (congrArg (fun b => b == true) (congr (congrArg (fun x y => x == y) (bfalse h1)) h8)) ?_
      refine W.guard false (w := ((a0_0 == a1_0) == true)) (by kernel_rfl) (congrArg (fun b => b == true) (congr (congrArg (fun x y => x == y) (bfalse h1)) h8)) ?_
      refine W.guard false (w := ((a0_0 == a1_0) == true)) (by kernel_rfl) (congrArg (fun b => b == true) (congr (congrArg (fun x y => x == y) (bfalse h1)) h8)) ?_
      refine W.guard false (w := ((a0_0 == a1_0) == true)) (by kernel_rfl) (congrArg (fun b => b == true) (congr (congrArg (fun x y => x == y) (bfalse h1)) h8)) ?_
      refine W.guard false (w := ((a0_0 == a1_0) == true)) (by kernel_rfl) (congrArg (fun b => b == true) (congr (congrArg (fun x y => x == y) (bfalse h1)) h8)) ?_
      refine W.guard false (w := ((a0_0 == a1_0) == true)) (by kernel_rfl) (congrArg (fun b => b == true) (congr (congrArg (fun x y => x == y) (bfalse h1)) h8)) ?_
      refine W.guard false (w := ((a0_0 == a1_0) == true)) (by kernel_rfl) (congrArg (fun b => b == true) (congr (congrArg (fun x y => x == y) (bfalse h1)) h8)) ?_
      refine W.guard false (w := ((a0_0 == a1_0) == true)) (by kernel_rfl) (congrArg (fun b => b == true) (congr (congrArg (fun x y => x == y) (bfalse h1)) h8)) ?_
      refine W.opS (OpIs.pk false (t := (a0_0 == a1_0)) (x := (.tuple [])) (y := (.bool false)) (by kernel_rfl) (congr (congrArg (fun x y => x == y) (bfalse h1)) h8)) ?_
      refine W.adv 12 ?_
      exact W.fin (x := .ret) (by kernel_rfl) (Ans.of (d := (.bool false)) (d' := (.bool false)) (e' := (.bool false)) (by kernel_rfl) (by kernel_rfl) (by kernel_rfl) (by rw [H]))
    · refine W.guard true (w := ((a0_0 == a1_0) == true)) (by kernel_rfl) (congrArg (fun b => b == true) (congr (congrArg (fun x y => x == y) (bfalse h1)) (bfalse h8))) ?_
      refine W.adv 1 ?_
      refine W.guard true (w := ((a0_0 == a1_0) == true)) (by kernel_rfl) (congrArg (fun b => b == true) (congr (congrArg (fun x y => x == y) (bfalse h1)) (bfalse h8))) ?_
      refine W.adv 1 ?_
      refine W.guard true (w := ((a0_0 == a1_0) == true)) (by kernel_rfl) (congrArg (fun b => b == true) (congr (congrArg (fun x y => x == y) (bfalse h1)) (bfalse h8))) ?_
      refine W.adv 1 ?_
      refine W.guard true (w := ((a0_0 == a1_0) == true)) (by kernel_rfl) (congrArg (fun b => b == true) (congr (congrArg (fun x y => x == y) (bfalse h1)) (bfalse h8))) ?_
      refine W.adv 1 ?_
      refine W.guard true (w := ((a0_0 == a1_0) == true)) (by kernel_rfl) (congrArg (fun b => b == true) (congr (congrArg (fun x y => x == y) (bfalse h1)) (bfalse h8))) ?_
      refine W.adv 1 ?_
      refine W.guard true (w := ((a0_0 == a1_0) == true)) (by kernel_rfl) (congrArg (fun b => b == true) (congr (congrArg (fun x y => x == y) (bfalse h1)) (bfalse h8))) ?_
      refine W.adv 1 ?_
      refine W.guard true (w := ((a0_0 == a1_0) == true)) (by kernel_rfl) (congrArg (fun b => b == true) (congr (congrArg (fun x y => x == y) (bfalse h1)) (bfalse h8))) ?_
      obtain ⟨c9, hc10, H⟩ := H
      refine W.callR (g := 70) (ds := [.ints .u64 a0_1, .ints .u64 a1_1]) (es := [.ints .u64 a0_1, .ints .u64 a1_1]) (r := (.int .i64 c9)) (by kernel_rfl) (by kernel_rfl) (Ic.args hc10 (by kernel_rfl)) (by kernel_rfl) ?_
      refine W.guard true (w := ((a0_0 == a1_0) == true)) (by kernel_rfl) (congrArg (fun b => b == true) (congr (congrArg (fun x y => x == y) (bfalse h1)) (bfalse h8))) ?_
      refine W.adv 1 ?_
      refine W.opS (OpIs.pk true (t := (a0_0 == a1_0)) (x := (.bool (decide (c9 = 0)))) (y := (.bool false)) (by kernel_rfl) (congr (congrArg (fun x y => x == y) (bfalse h1)) (bfalse h8))) ?_
      refine W.adv 1 ?_
      rcases H with ⟨h11, H⟩ | ⟨h11, H⟩
      · refine W.guard true (w := ((decide (c9 = 0)) == true)) (by kernel_rfl) (congrArg (fun b => b == true) (decide_eq_true h11)) ?_
        refine W.adv 1 ?_
        refine W.guard true (w := ((decide (c9 = 0)) == true)) (by kernel_rfl) (congrArg (fun b => b == true) (decide_eq_true h11)) ?_
        refine W.adv 1 ?_
        refine W.guard true (w := ((decide (c9 = 0)) == true)) (by kernel_rfl) (congrArg (fun b => b == true) (decide_eq_true h11)) ?_
        refine W.adv 1 ?_
        refine W.guard true (w := ((decide (c9 = 0)) == true)) (by kernel_rfl) (congrArg (fun b => b == true) (decide_eq_true h11)) ?_
        refine W.adv 1 ?_
        refine W.guard true (w := ((decide (c9 = 0)) == true)) (by kernel_rfl) (congrArg (fun b => b == true) (decide_eq_true h11)) ?_
        obtain ⟨c12, hc13, H⟩ := H
        refine W.callR (g := 70) (ds := [.ints .u64 a0_2, .ints .u64 a1_2]) (es := [.ints .u64 a0_2, .ints .u64 a1_2]) (r := (.int .i64 c12)) (by kernel_rfl) (by kernel_rfl) (Ic.args hc13 (by kernel_rfl)) (by kernel_rfl) ?_
        refine W.guard true (w := ((decide (c9 = 0)) == true)) (by kernel_rfl) (congrArg (fun b => b == true) (decide_eq_true h11)) ?_
        refine W.adv 1 ?_
        refine W.opS (OpIs.pk true (t := (decide (c9 = 0))) (x := (.bool (decide (c12 = 0)))) (y := (.bool false)) (by kernel_rfl) (decide_eq_true h11)) ?_
        refine W.adv 4 ?_
        exact W.fin (x := .ret) (by kernel_rfl) (Ans.of (d := (.bool (decide (c12 = 0)))) (d' := (.bool (decide (c12 = 0)))) (e' := (.bool (decide (c12 = 0)))) (by kernel_rfl) (by kernel_rfl) (by kernel_rfl) (by rw [H]))
      · refine W.guard false (w := ((decide (c9 = 0)) == true)) (by kernel_rfl) (congrArg (fun b => b == true) (decide_eq_false h11)) ?_
        refine W.guard false (w := ((decide (c9 = 0)) == true)) (by kernel_rfl) (congrArg (fun b => b == true) (decide_eq_false h11)) ?_
        refine W.guard false (w := ((decide (c9 = 0)) == true)) (by kernel_rfl) (congrArg (fun b => b == true) (decide_eq_false h11)) ?_
        refine W.guard false (w := ((decide (c9 = 0)) == true)) (by kernel_rfl) (congrArg (fun b => b == true) (decide_eq_false h11)) ?_
        refine W.guard false (w := ((decide (c9 = 0)) == true)) (by kernel_rfl) (congrArg (fun b => b == true) (decide_eq_false h11)) ?_
        refine W.guard false (w := ((decide (c9 = 0)) == true)) (by kernel_rfl) (congrArg (fun b => b == true) (decide_eq_false h11)) ?_
        refine W.opS (OpIs.pk false (t := (decide (c9 = 0))) (x := (.tuple [])) (y := (.bool false)) (by kernel_rfl) (decide_eq_false h11)) ?_
        refine W.adv 4 ?_
        exact W.fin (x := .ret) (by kernel_rfl) (Ans.of (d := (.bool false)) (d' := (.bool false)) (e' := (.bool false)) (by kernel_rfl) (by kernel_rfl) (by kernel_rfl) (by rw [H]))
end Go.Proofs.YtmdgdgfhgaeddaaGreatA
