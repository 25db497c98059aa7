/- Walks through the functions: what makes each relation true. -/
import Derived.Test.YtjcdkemnflmfiaaGreatW0
set_option linter.unusedVariables false
set_option maxRecDepth 100000
namespace Go.Proofs.YtjcdkemnflmfiaaGreatA
open Go Go.Proofs
theorem rat_Of_go {a0 : Int} {z_0 : Bool} {z_1 : List Int} {z_2 : List Int} (H : (∃ c1_0 : Bool, (∃ c1_1 : List Int, (whole_Of_R a0 c1_0 c1_1 ∧ (∃ c3 : List Int, (rat_one_R c3 ∧ (z_0 = c1_0 ∧ z_1 = c1_1 ∧ z_2 = c3))))))) : rat_Of_R a0 z_0 z_1 z_2 := by
 refine W.ic (zs := [.int .i64 a0]) Tryz.func38 (by kernel_rfl) (by kernel_rfl) (by kernel_rfl) (by kernel_rfl) ?_
 refine W.adv 8 ?_
 obtain ⟨c1_0, c1_1, hc2, H⟩ := H
 refine W.callR (g := 100) (ds := [.int .i64 a0]) (es := [.int .i64 a0]) (r := (.agg [.bool c1_0, .ints .u64 c1_1])) (by kernel_rfl) (by kernel_rfl) (Ic.args hc2 (by kernel_rfl)) (by kernel_rfl) ?_
 obtain ⟨c3, hc4, H⟩ := H
 refine W.callR (g := 103) (ds := []) (es := []) (r := (.ints .u64 c3)) (by kernel_rfl) (by kernel_rfl) (Ic.args hc4 (by kernel_rfl)) (by kernel_rfl) ?_
 refine W.adv 5 ?_
 exact W.fin (x := .ret) (by kernel_rfl) (Ans.of (d := (.agg [.bool c1_0, .ints .u64 c1_1, .ints .u64 c3])) (d' := (.agg [.bool c1_0, .ints .u64 c1_1, .ints .u64 c3])) (e' := (.agg [.bool c1_0, .ints .u64 c1_1, .ints .u64 c3])) (by kernel_rfl) (by kernel_rfl) (by kernel_rfl) (by rw [H.1, H.2.1, H.2.2]))
theorem rat_Add_go {a0_0 : Bool} {a0_1 : List Int} {a0_2 : List Int} {a1_0 : Bool} {a1_1 : List Int} {a1_2 : List Int} {z_0 : Bool} {z_1 : List Int} {z_2 : List Int} (H : (∃ c1_0 : Bool, (∃ c1_1 : List Int, (rat_up_R a1_0 a1_1 a1_2 c1_0 c1_1 ∧ (∃ c3_0 : Bool, (∃ c3_1 : List Int, (whole_Mul_R a0_0 a0_1 c1_0 c1_1 c3_0 c3_1 ∧ (∃ c5_0 : Bool, (∃ c5_1 : List Int, (rat_up_R a0_0 a0_1 a0_2 c5_0 c5_1 ∧ (∃ c7_0 : Bool, (∃ c7_1 : List Int, (whole_Mul_R a1_0 a1_1 c5_0 c5_1 c7_0 c7_1 ∧ (∃ c9_0 : Bool, (∃ c9_1 : List Int, (whole_Add_R c3_0 c3_1 c7_0 c7_1 c9_0 c9_1 ∧ (∃ c11_0 : Bool, (∃ c11_1 : List Int, (rat_up_R a0_0 a0_1 a0_2 c11_0 c11_1 ∧ (∃ c13_0 : Bool, (∃ c13_1 : List Int, (rat_up_R a1_0 a1_1 a1_2 c13_0 c13_1 ∧ (∃ c15_0 : Bool, (∃ c15_1 : List Int, (whole_Mul_R c11_0 c11_1 c13_0 c13_1 c15_0 c15_1 ∧ (∃ c17t0_0 : Bool, (∃ c17t0_1 : List Int, (∃ c17t0_2 : List Int, (∃ c17t1 : Int, (rat_Make_R c9_0 c9_1 c15_0 c15_1 c17t0_0 c17t0_1 c17t0_2 c17t1 ∧ (z_0 = c17t0_0 ∧ z_1 = c17t0_1 ∧ z_2 = c17t0_2))))))))))))))))))))))))))))))) : rat_Add_R a0_0 a0_1 a0_2 a1_0 a1_1 a1_2 z_0 z_1 z_2 := by
 refine W.ic (zs := [(.agg [.bool a0_0, .ints .u64 a0_1, .ints .u64 a0_2]), (.agg [.bool a1_0, .ints .u64 a1_1, .ints .u64 a1_2])]) Tryz.func44 (by kernel_rfl) (by kernel_rfl) (by kernel_rfl) (by kernel_rfl) ?_
 refine W.adv 12 ?_
 obtain ⟨c1_0, c1_1, hc2, H⟩ := H
 refine W.callR (g := 114) (ds := [(.agg [.bool a1_0, .ints .u64 a1_1, .ints .u64 a1_2])]) (es := [(.agg [.bool a1_0, .ints .u64 a1_1, .ints .u64 a1_2])]) (r := (.agg [.bool c1_0, .ints .u64 c1_1])) (by kernel_rfl) (by kernel_rfl) (Ic.args hc2 (by kernel_rfl)) (by kernel_rfl) ?_
 obtain ⟨c3_0, c3_1, hc4, H⟩ := H
 refine W.callR (g := 113) (ds := [(.agg [.bool a0_0, .ints .u64 a0_1]), (.agg [.bool c1_0, .ints .u64 c1_1])]) (es := [(.agg [.bool a0_0, .ints .u64 a0_1]), (.agg [.bool c1_0, .ints .u64 c1_1])]) (r := (.agg [.bool c3_0, .ints .u64 c3_1])) (by kernel_rfl) (by kernel_rfl) (Ic.args hc4 (by kernel_rfl)) (by kernel_rfl) ?_
 refine W.adv 3 ?_
 obtain ⟨c5_0, c5_1, hc6, H⟩ := H
 refine W.callR (g := 114) (ds := [(.agg [.bool a0_0, .ints .u64 a0_1, .ints .u64 a0_2])]) (es := [(.agg [.bool a0_0, .ints .u64 a0_1, .ints .u64 a0_2])]) (r := (.agg [.bool c5_0, .ints .u64 c5_1])) (by kernel_rfl) (by kernel_rfl) (Ic.args hc6 (by kernel_rfl)) (by kernel_rfl) ?_
 obtain ⟨c7_0, c7_1, hc8, H⟩ := H
 refine W.callR (g := 113) (ds := [(.agg [.bool a1_0, .ints .u64 a1_1]), (.agg [.bool c5_0, .ints .u64 c5_1])]) (es := [(.agg [.bool a1_0, .ints .u64 a1_1]), (.agg [.bool c5_0, .ints .u64 c5_1])]) (r := (.agg [.bool c7_0, .ints .u64 c7_1])) (by kernel_rfl) (by kernel_rfl) (Ic.args hc8 (by kernel_rfl)) (by kernel_rfl) ?_
 obtain ⟨c9_0, c9_1, hc10, H⟩ := H
 refine W.callR (g := 112) (ds := [(.agg [.bool c3_0, .ints .u64 c3_1]), (.agg [.bool c7_0, .ints .u64 c7_1])]) (es := [(.agg [.bool c3_0, .ints .u64 c3_1]), (.agg [.bool c7_0, .ints .u64 c7_1])]) (r := (.agg [.bool c9_0, .ints .u64 c9_1])) (by kernel_rfl) (by kernel_rfl) (Ic.args hc10 (by kernel_rfl)) (by kernel_rfl) ?_
 refine W.adv 8 ?_
 obtain ⟨c11_0, c11_1, hc12, H⟩ := H
 refine W.callR (g := 114) (ds := [(.agg [.bool a0_0, .ints .u64 a0_1, .ints .u64 a0_2])]) (es := [(.agg [.bool a0_0, .ints .u64 a0_1, .ints .u64 a0_2])]) (r := (.agg [.bool c11_0, .ints .u64 c11_1])) (by kernel_rfl) (by kernel_rfl) (Ic.args hc12 (by kernel_rfl)) (by kernel_rfl) ?_
 refine W.adv 1 ?_
 obtain ⟨c13_0, c13_1, hc14, H⟩ := H
 refine W.callR (g := 114) (ds := [(.agg [.bool a1_0, .ints .u64 a1_1, .ints .u64 a1_2])]) (es := [(.agg [.bool a1_0, .ints .u64 a1_1, .ints .u64 a1_2])]) (r := (.agg [.bool c13_0, .ints .u64 c13_1])) (by kernel_rfl) (by kernel_rfl) (Ic.args hc14 (by kernel_rfl)) (by kernel_rfl) ?_
 obtain ⟨c15_0, c15_1, hc16, H⟩ := H
 refine W.callR (g := 113) (ds := [(.agg [.bool c11_0, .ints .u64 c11_1]), (.agg [.bool c13_0, .ints .u64 c13_1])]) (es := [(.agg [.bool c11_0, .ints .u64 c11_1]), (.agg [.bool c13_0, .ints .u64 c13_1])]) (r := (.agg [.bool c15_0, .ints .u64 c15_1])) (by kernel_rfl) (by kernel_rfl) (Ic.args hc16 (by kernel_rfl)) (by kernel_rfl) ?_
 obtain ⟨c17t0_0, c17t0_1, c17t0_2, c17t1, hc18, H⟩ := H
 refine W.callR (g := 99) (ds := [(.agg [.bool c9_0, .ints .u64 c9_1]), (.agg [.bool c15_0, .ints .u64 c15_1])]) (es := [(.agg [.bool c9_0, .ints .u64 c9_1]), (.agg [.bool c15_0, .ints .u64 c15_1])]) (r := (.tuple [(.agg [.bool c17t0_0, .ints .u64 c17t0_1, .ints .u64 c17t0_2]), .int .i64 c17t1])) (by kernel_rfl) (by kernel_rfl) (Ic.args hc18 (by kernel_rfl)) (by kernel_rfl) ?_
 refine W.adv 15 ?_
 exact W.fin (x := .ret) (by kernel_rfl) (Ans.of (d := (.agg [.bool c17t0_0, .ints .u64 c17t0_1, .ints .u64 c17t0_2])) (d' := (.agg [.bool c17t0_0, .ints .u64 c17t0_1, .ints .u64 c17t0_2])) (e' := (.agg [.bool c17t0_0, .ints .u64 c17t0_1, .ints .u64 c17t0_2])) (by kernel_rfl) (by kernel_rfl) (by kernel_rfl) (by rw [H.1, H.2.1, H.2.2]))
theorem rat_Mul_go {a0_0 : Bool} {a0_1 : List Int} {a0_2 : List Int} {a1_0 : Bool} {a1_1 : List Int} {a1_2 : List Int} {z_0 : Bool} {z_1 : List Int} {z_2 : List Int} (H : (∃ c1_0 : Bool, (∃ c1_1 : List Int, (whole_Mul_R a0_0 a0_1 a1_0 a1_1 c1_0 c1_1 ∧ (∃ c3_0 : Bool, (∃ c3_1 : List Int, (rat_up_R a0_0 a0_1 a0_2 c3_0 c3_1 ∧ (∃ c5_0 : Bool, (∃ c5_1 : List Int, (rat_up_R a1_0 a1_1 a1_2 c5_0 c5_1 ∧ (∃ c7_0 : Bool, (∃ c7_1 : List Int, (whole_Mul_R c3_0 c3_1 c5_0 c5_1 c7_0 c7_1 ∧ (∃ c9t0_0 : Bool, (∃ c9t0_1 : List Int, (∃ c9t0_2 : List Int, (∃ c9t1 : Int, (rat_Make_R c1_0 c1_1 c7_0 c7_1 c9t0_0 c9t0_1 c9t0_2 c9t1 ∧ (z_0 = c9t0_0 ∧ z_1 = c9t0_1 ∧ z_2 = c9t0_2))))))))))))))))))) : rat_Mul_R a0_0 a0_1 a0_2 a1_0 a1_1 a1_2 z_0 z_1 z_2 := by
 refine W.ic (zs := [(.agg [.bool a0_0, .ints .u64 a0_1, .ints .u64 a0_2]), (.agg [.bool a1_0, .ints .u64 a1_1, .ints .u64 a1_2])]) Tryz.func45 (by kernel_rfl) (by kernel_rfl) (by kernel_rfl) (by kernel_rfl) ?_
 refine W.adv 13 ?_
 obtain ⟨c1_0, c1_1, hc2, H⟩ := H
 refine W.callR (g := 113) (ds := [(.agg [.bool a0_0, .ints .u64 a0_1]), (.agg [.bool a1_0, .ints .u64 a1_1])]) (es := [(.agg [.bool a0_0, .ints .u64 a0_1]), (.agg [.bool a1_0, .ints .u64 a1_1])]) (r := (.agg [.bool c1_0, .ints .u64 c1_1])) (by kernel_rfl) (by kernel_rfl) (Ic.args hc2 (by kernel_rfl)) (by kernel_rfl) ?_
 refine W.adv 1 ?_
 obtain ⟨c3_0, c3_1, hc4, H⟩ := H
 refine W.callR (g := 114) (ds := [(.agg [.bool a0_0, .ints .u64 a0_1, .ints .u64 a0_2])]) (es := [(.agg [.bool a0_0, .ints .u64 a0_1, .ints .u64 a0_2])]) (r := (.agg [.bool c3_0, .ints .u64 c3_1])) (by kernel_rfl) (by kernel_rfl) (Ic.args hc4 (by kernel_rfl)) (by kernel_rfl) ?_
 refine W.adv 1 ?_
 obtain ⟨c5_0, c5_1, hc6, H⟩ := H
 refine W.callR (g := 114) (ds := [(.agg [.bool a1_0, .ints .u64 a1_1, .ints .u64 a1_2])]) (es := [(.agg [.bool a1_0, .ints .u64 a1_1, .ints .u64 a1_2])]) (r := (.agg [.bool c5_0, .ints .u64 c5_1])) (by kernel_rfl) (by kernel_rfl) (Ic.args hc6 (by kernel_rfl)) (by kernel_rfl) ?_
 obtain ⟨c7_0, c7_1, hc8, H⟩ := H
 refine W.callR (g := 113) (ds := [(.agg [.bool c3_0, .ints .u64 c3_1]), (.agg [.bool c5_0, .ints .u64 c5_1])]) (es := [(.agg [.bool c3_0, .ints .u64 c3_1]), (.agg [.bool c5_0, .ints .u64 c5_1])]) (r := (.agg [.bool c7_0, .ints .u64 c7_1])) (by kernel_rfl) (by kernel_rfl) (Ic.args hc8 (by kernel_rfl)) (by kernel_rfl) ?_
 obtain ⟨c9t0_0, c9t0_1, c9t0_2, c9t1, hc10, H⟩ := H
 refine W.callR (g := 99) (ds := [(.agg [.bool c1_0, .ints .u64 c1_1]), (.agg [.bool c7_0, .ints .u64 c7_1])]) (es := [(.agg [.bool c1_0, .ints .u64 c1_1]), (.agg [.bool c7_0, .ints .u64 c7_1])]) (r := (.tuple [(.agg [.bool c9t0_0, .ints .u64 c9t0_1, .ints .u64 c9t0_2]), .int .i64 c9t1])) (by kernel_rfl) (by kernel_rfl) (Ic.args hc10 (by kernel_rfl)) (by kernel_rfl) ?_
 refine W.adv 15 ?_
 exact W.fin (x := .ret) (by kernel_rfl) (Ans.of (d := (.agg [.bool c9t0_0, .ints .u64 c9t0_1, .ints .u64 c9t0_2])) (d' := (.agg [.bool c9t0_0, .ints .u64 c9t0_1, .ints .u64 c9t0_2])) (e' := (.agg [.bool c9t0_0, .ints .u64 c9t0_1, .ints .u64 c9t0_2])) (by kernel_rfl) (by kernel_rfl) (by kernel_rfl) (by rw [H.1, H.2.1, H.2.2]))
theorem rat_Make_go {a0_0 : Bool} {a0_1 : List Int} {a1_0 : Bool} {a1_1 : List Int} {zt0_0 : Bool} {zt0_1 : List Int} {zt0_2 : List Int} {zt1 : Int} (H : (∃ c1 : Int, (whole_Sign_R a1_0 a1_1 c1 ∧ ((c1 = 0 ∧ (zt0_0 = false ∧ zt0_1 = [] ∧ zt0_2 = [] ∧ zt1 = 3)) ∨ (¬ c1 = 0 ∧ (∃ c4_0 : Bool, (∃ c4_1 : List Int, (whole_Made_R (!(a0_0 == a1_0)) a0_1 c4_0 c4_1 ∧ (∃ c6_0 : Bool, (∃ c6_1 : List Int, (∃ c6_2 : List Int, (rat_low_R c4_0 c4_1 a1_1 c6_0 c6_1 c6_2 ∧ (zt0_0 = c6_0 ∧ zt0_1 = c6_1 ∧ zt0_2 = c6_2 ∧ zt1 = 0))))))))))))) : rat_Make_R a0_0 a0_1 a1_0 a1_1 zt0_0 zt0_1 zt0_2 zt1 := by
 refine W.ic (zs := [(.agg [.bool a0_0, .ints .u64 a0_1]), (.agg [.bool a1_0, .ints .u64 a1_1])]) Tryz.func99 (by kernel_rfl) (by kernel_rfl) (by kernel_rfl) (by kernel_rfl) ?_
 refine W.adv 12 ?_
 obtain ⟨c1, hc2, H⟩ := H
 refine W.callR (g := 71) (ds := [(.agg [.bool a1_0, .ints .u64 a1_1])]) (es := [(.agg [.bool a1_0, .ints .u64 a1_1])]) (r := (.int .i64 c1)) (by kernel_rfl) (by kernel_rfl) (Ic.args hc2 (by kernel_rfl)) (by kernel_rfl) ?_
 refine W.adv 3 ?_
 rcases H with ⟨h3, H⟩ | ⟨h3, H⟩
 ·refine W.cond true (w := (decide (c1 = 0))) (by kernel_rfl) (decide_eq_true h3) ?_
  refine W.adv 9 ?_
  exact W.fin (x := .ret) (by kernel_rfl) (Ans.of (d := (.tuple [(.agg [.bool false, .nilS, .nilS]), .int .i64 3])) (d' := (.tuple [(.agg [.bool false, .nilS, .nilS]), .int .i64 3])) (e' := (.tuple [(.agg [.bool false, .ints .u64 [], .ints .u64 []]), .int .i64 3])) (by kernel_rfl) (by kernel_rfl) (by kernel_rfl) (by rw [H.1, H.2.1, H.2.2.1, H.2.2.2]))
 ·refine W.cond false (w := (decide (c1 = 0))) (by kernel_rfl) (decide_eq_false h3) ?_
  refine W.adv 11 ?_
  obtain ⟨c4_0, c4_1, hc5, H⟩ := H
  refine W.callR (g := 148) (ds := [(.bool (!(a0_0 == a1_0))), .ints .u64 a0_1]) (es := [(.bool (!(a0_0 == a1_0))), .ints .u64 a0_1]) (r := (.agg [.bool c4_0, .ints .u64 c4_1])) (by kernel_rfl) (by kernel_rfl) (Ic.args hc5 (by kernel_rfl)) (by kernel_rfl) ?_
  refine W.adv 2 ?_
  obtain ⟨c6_0, c6_1, c6_2, hc7, H⟩ := H
  refine W.callR (g := 147) (ds := [(.agg [.bool c4_0, .ints .u64 c4_1]), .ints .u64 a1_1]) (es := [(.agg [.bool c4_0, .ints .u64 c4_1]), .ints .u64 a1_1]) (r := (.agg [.bool c6_0, .ints .u64 c6_1, .ints .u64 c6_2])) (by kernel_rfl) (by kernel_rfl) (Ic.args hc7 (by kernel_rfl)) (by kernel_rfl) ?_
  refine W.adv 5 ?_
  exact W.fin (x := .ret) (by kernel_rfl) (Ans.of (d := (.tuple [(.agg [.bool c6_0, .ints .u64 c6_1, .ints .u64 c6_2]), .int .i64 0])) (d' := (.tuple [(.agg [.bool c6_0, .ints .u64 c6_1, .ints .u64 c6_2]), .int .i64 0])) (e' := (.tuple [(.agg [.bool c6_0, .ints .u64 c6_1, .ints .u64 c6_2]), .int .i64 0])) (by kernel_rfl) (by kernel_rfl) (by kernel_rfl) (by rw [H.1, H.2.1, H.2.2.1, H.2.2.2]))
theorem rat_one_go {z : List Int} (H : (∃ c1 : List Int, (nat_Of_R 1 c1 ∧ (z = c1)))) : rat_one_R z := by
 refine W.ic (zs := []) Tryz.func103 (by kernel_rfl) (by kernel_rfl) (by kernel_rfl) (by kernel_rfl) ?_
 refine W.adv 7 ?_
 obtain ⟨c1, hc2, H⟩ := H
 refine W.callR (g := 150) (ds := [.int .u64 1]) (es := [.int .u64 1]) (r := (.ints .u64 c1)) (by kernel_rfl) (by kernel_rfl) (Ic.args hc2 (by kernel_rfl)) (by kernel_rfl) ?_
 refine W.adv 4 ?_
 exact W.fin (x := .ret) (by kernel_rfl) (Ans.of (d := (.ints .u64 c1)) (d' := (.ints .u64 c1)) (e' := (.ints .u64 c1)) (by kernel_rfl) (by kernel_rfl) (by kernel_rfl) (by rw [H]))
theorem rat_up_go {a0_0 : Bool} {a0_1 : List Int} {a0_2 : List Int} {z_0 : Bool} {z_1 : List Int} (H : (∃ c1_0 : Bool, (∃ c1_1 : List Int, (whole_Made_R false a0_2 c1_0 c1_1 ∧ (z_0 = c1_0 ∧ z_1 = c1_1))))) : rat_up_R a0_0 a0_1 a0_2 z_0 z_1 := by
 refine W.ic (zs := [(.agg [.bool a0_0, .ints .u64 a0_1, .ints .u64 a0_2])]) Tryz.func114 (by kernel_rfl) (by kernel_rfl) (by kernel_rfl) (by kernel_rfl) ?_
 refine W.adv 10 ?_
 obtain ⟨c1_0, c1_1, hc2, H⟩ := H
 refine W.callR (g := 148) (ds := [.bool false, .ints .u64 a0_2]) (es := [.bool false, .ints .u64 a0_2]) (r := (.agg [.bool c1_0, .ints .u64 c1_1])) (by kernel_rfl) (by kernel_rfl) (Ic.args hc2 (by kernel_rfl)) (by kernel_rfl) ?_
 refine W.adv 4 ?_
 exact W.fin (x := .ret) (by kernel_rfl) (Ans.of (d := (.agg [.bool c1_0, .ints .u64 c1_1])) (d' := (.agg [.bool c1_0, .ints .u64 c1_1])) (e' := (.agg [.bool c1_0, .ints .u64 c1_1])) (by kernel_rfl) (by kernel_rfl) (by kernel_rfl) (by rw [H.1, H.2]))
theorem rat_Div_go {a0_0 : Bool} {a0_1 : List Int} {a0_2 : List Int} {a1_0 : Bool} {a1_1 : List Int} {a1_2 : List Int} {zt0_0 : Bool} {zt0_1 : List Int} {zt0_2 : List Int} {zt1 : Int} (H : (∃ c1t0_0 : Bool, (∃ c1t0_1 : List Int, (∃ c1t0_2 : List Int, (∃ c1t1 : Int, (rat_Inv_R a1_0 a1_1 a1_2 c1t0_0 c1t0_1 c1t0_2 c1t1 ∧ ((c1t1 = 0 ∧ (∃ c4_0 : Bool, (∃ c4_1 : List Int, (∃ c4_2 : List Int, (rat_Mul_R a0_0 a0_1 a0_2 c1t0_0 c1t0_1 c1t0_2 c4_0 c4_1 c4_2 ∧ (zt0_0 = c4_0 ∧ zt0_1 = c4_1 ∧ zt0_2 = c4_2 ∧ zt1 = c1t1)))))) ∨ (¬ c1t1 = 0 ∧ (zt0_0 = false ∧ zt0_1 = [] ∧ zt0_2 = [] ∧ zt1 = c1t1))))))))) : rat_Div_R a0_0 a0_1 a0_2 a1_0 a1_1 a1_2 zt0_0 zt0_1 zt0_2 zt1 := by
 refine W.ic (zs := [(.agg [.bool a0_0, .ints .u64 a0_1, .ints .u64 a0_2]), (.agg [.bool a1_0, .ints .u64 a1_1, .ints .u64 a1_2])]) Tryz.func121 (by kernel_rfl) (by kernel_rfl) (by kernel_rfl) (by kernel_rfl) ?_
 refine W.adv 11 ?_
 obtain ⟨c1t0_0, c1t0_1, c1t0_2, c1t1, hc2, H⟩ := H
 refine W.callR (g := 162) (ds := [(.agg [.bool a1_0, .ints .u64 a1_1, .ints .u64 a1_2])]) (es := [(.agg [.bool a1_0, .ints .u64 a1_1, .ints .u64 a1_2])]) (r := (.tuple [(.agg [.bool c1t0_0, .ints .u64 c1t0_1, .ints .u64 c1t0_2]), .int .i64 c1t1])) (by kernel_rfl) (by kernel_rfl) (Ic.args hc2 (by kernel_rfl)) (by kernel_rfl) ?_
 refine W.adv 15 ?_
 rcases H with ⟨h3, H⟩ | ⟨h3, H⟩
 ·refine W.cond false (w := (!(decide (c1t1 = 0)))) (by kernel_rfl) (congrArg (fun b => !b) (decide_eq_true h3)) ?_
  refine W.adv 6 ?_
  obtain ⟨c4_0, c4_1, c4_2, hc5, H⟩ := H
  refine W.callR (g := 45) (ds := [(.agg [.bool a0_0, .ints .u64 a0_1, .ints .u64 a0_2]), (.agg [.bool c1t0_0, .ints .u64 c1t0_1, .ints .u64 c1t0_2])]) (es := [(.agg [.bool a0_0, .ints .u64 a0_1, .ints .u64 a0_2]), (.agg [.bool c1t0_0, .ints .u64 c1t0_1, .ints .u64 c1t0_2])]) (r := (.agg [.bool c4_0, .ints .u64 c4_1, .ints .u64 c4_2])) (by kernel_rfl) (by kernel_rfl) (Ic.args hc5 (by kernel_rfl)) (by kernel_rfl) ?_
  refine W.adv 6 ?_
  exact W.fin (x := .ret) (by kernel_rfl) (Ans.of (d := (.tuple [(.agg [.bool c4_0, .ints .u64 c4_1, .ints .u64 c4_2]), .int .i64 c1t1])) (d' := (.tuple [(.agg [.bool c4_0, .ints .u64 c4_1, .ints .u64 c4_2]), .int .i64 c1t1])) (e' := (.tuple [(.agg [.bool c4_0, .ints .u64 c4_1, .ints .u64 c4_2]), .int .i64 c1t1])) (by kernel_rfl) (by kernel_rfl) (by kernel_rfl) (by rw [H.1, H.2.1, H.2.2.1, H.2.2.2]))
 ·refine W.cond true (w := (!(decide (c1t1 = 0)))) (by kernel_rfl) (congrArg (fun b => !b) (decide_eq_false h3)) ?_
  refine W.adv 10 ?_
  exact W.fin (x := .ret) (by kernel_rfl) (Ans.of (d := (.tuple [(.agg [.bool false, .nilS, .nilS]), .int .i64 c1t1])) (d' := (.tuple [(.agg [.bool false, .nilS, .nilS]), .int .i64 c1t1])) (e' := (.tuple [(.agg [.bool false, .ints .u64 [], .ints .u64 []]), .int .i64 c1t1])) (by kernel_rfl) (by kernel_rfl) (by kernel_rfl) (by rw [H.1, H.2.1, H.2.2.1, H.2.2.2]))
theorem rat_low_go {a0_0 : Bool} {a0_1 : List Int} {a1 : List Int} {z_0 : Bool} {z_1 : List Int} {z_2 : List Int} (H : (∃ c1 : List Int, (gcd_Euclid_R a0_1 a1 c1 ∧ (∃ c3t0 : List Int, (∃ c3t1 : Int, (divide_Exact_R a0_1 c1 c3t0 c3t1 ∧ (∃ c5t0 : List Int, (∃ c5t1 : Int, (divide_Exact_R a1 c1 c5t0 c5t1 ∧ (∃ c7_0 : Bool, (∃ c7_1 : List Int, (whole_Made_R a0_0 c3t0 c7_0 c7_1 ∧ (z_0 = c7_0 ∧ z_1 = c7_1 ∧ z_2 = c5t0))))))))))))) : rat_low_R a0_0 a0_1 a1 z_0 z_1 z_2 := by
 refine W.ic (zs := [(.agg [.bool a0_0, .ints .u64 a0_1]), .ints .u64 a1]) Tryz.func147 (by kernel_rfl) (by kernel_rfl) (by kernel_rfl) (by kernel_rfl) ?_
 refine W.adv 11 ?_
 obtain ⟨c1, hc2, H⟩ := H
 refine W.callR (g := 178) (ds := [.ints .u64 a0_1, .ints .u64 a1]) (es := [.ints .u64 a0_1, .ints .u64 a1]) (r := (.ints .u64 c1)) (by kernel_rfl) (by kernel_rfl) (Ic.args hc2 (by kernel_rfl)) (by kernel_rfl) ?_
 refine W.adv 8 ?_
 obtain ⟨c3t0, c3t1, hc4, H⟩ := H
 refine W.callR (g := 179) (ds := [.ints .u64 a0_1, .ints .u64 c1]) (es := [.ints .u64 a0_1, .ints .u64 c1]) (r := (.tuple [.ints .u64 c3t0, .int .i64 c3t1])) (by kernel_rfl) (by kernel_rfl) (Ic.args hc4 (by kernel_rfl)) (by kernel_rfl) ?_
 refine W.adv 11 ?_
 obtain ⟨c5t0, c5t1, hc6, H⟩ := H
 refine W.callR (g := 179) (ds := [.ints .u64 a1, .ints .u64 c1]) (es := [.ints .u64 a1, .ints .u64 c1]) (r := (.tuple [.ints .u64 c5t0, .int .i64 c5t1])) (by kernel_rfl) (by kernel_rfl) (Ic.args hc6 (by kernel_rfl)) (by kernel_rfl) ?_
 refine W.adv 12 ?_
 obtain ⟨c7_0, c7_1, hc8, H⟩ := H
 refine W.callR (g := 148) (ds := [.bool a0_0, .ints .u64 c3t0]) (es := [.bool a0_0, .ints .u64 c3t0]) (r := (.agg [.bool c7_0, .ints .u64 c7_1])) (by kernel_rfl) (by kernel_rfl) (Ic.args hc8 (by kernel_rfl)) (by kernel_rfl) ?_
 refine W.adv 6 ?_
 exact W.fin (x := .ret) (by kernel_rfl) (Ans.of (d := (.agg [.bool c7_0, .ints .u64 c7_1, .ints .u64 c5t0])) (d' := (.agg [.bool c7_0, .ints .u64 c7_1, .ints .u64 c5t0])) (e' := (.agg [.bool c7_0, .ints .u64 c7_1, .ints .u64 c5t0])) (by kernel_rfl) (by kernel_rfl) (by kernel_rfl) (by rw [H.1, H.2.1, H.2.2]))
theorem rat_Inv_go {a0_0 : Bool} {a0_1 : List Int} {a0_2 : List Int} {zt0_0 : Bool} {zt0_1 : List Int} {zt0_2 : List Int} {zt1 : Int} (H : (∃ c1_0 : Bool, (∃ c1_1 : List Int, (rat_up_R a0_0 a0_1 a0_2 c1_0 c1_1 ∧ (∃ c3t0_0 : Bool, (∃ c3t0_1 : List Int, (∃ c3t0_2 : List Int, (∃ c3t1 : Int, (rat_Make_R c1_0 c1_1 a0_0 a0_1 c3t0_0 c3t0_1 c3t0_2 c3t1 ∧ (zt0_0 = c3t0_0 ∧ zt0_1 = c3t0_1 ∧ zt0_2 = c3t0_2 ∧ zt1 = c3t1)))))))))) : rat_Inv_R a0_0 a0_1 a0_2 zt0_0 zt0_1 zt0_2 zt1 := by
 refine W.ic (zs := [(.agg [.bool a0_0, .ints .u64 a0_1, .ints .u64 a0_2])]) Tryz.func162 (by kernel_rfl) (by kernel_rfl) (by kernel_rfl) (by kernel_rfl) ?_
 refine W.adv 10 ?_
 obtain ⟨c1_0, c1_1, hc2, H⟩ := H
 refine W.callR (g := 114) (ds := [(.agg [.bool a0_0, .ints .u64 a0_1, .ints .u64 a0_2])]) (es := [(.agg [.bool a0_0, .ints .u64 a0_1, .ints .u64 a0_2])]) (r := (.agg [.bool c1_0, .ints .u64 c1_1])) (by kernel_rfl) (by kernel_rfl) (Ic.args hc2 (by kernel_rfl)) (by kernel_rfl) ?_
 refine W.adv 2 ?_
 obtain ⟨c3t0_0, c3t0_1, c3t0_2, c3t1, hc4, H⟩ := H
 refine W.callR (g := 99) (ds := [(.agg [.bool c1_0, .ints .u64 c1_1]), (.agg [.bool a0_0, .ints .u64 a0_1])]) (es := [(.agg [.bool c1_0, .ints .u64 c1_1]), (.agg [.bool a0_0, .ints .u64 a0_1])]) (r := (.tuple [(.agg [.bool c3t0_0, .ints .u64 c3t0_1, .ints .u64 c3t0_2]), .int .i64 c3t1])) (by kernel_rfl) (by kernel_rfl) (Ic.args hc4 (by kernel_rfl)) (by kernel_rfl) ?_
 refine W.adv 7 ?_
 exact W.fin (x := .ret) (by kernel_rfl) (Ans.of (d := (.tuple [(.agg [.bool c3t0_0, .ints .u64 c3t0_1, .ints .u64 c3t0_2]), .int .i64 c3t1])) (d' := (.tuple [(.agg [.bool c3t0_0, .ints .u64 c3t0_1, .ints .u64 c3t0_2]), .int .i64 c3t1])) (e' := (.tuple [(.agg [.bool c3t0_0, .ints .u64 c3t0_1, .ints .u64 c3t0_2]), .int .i64 c3t1])) (by kernel_rfl) (by kernel_rfl) (by kernel_rfl) (by rw [H.1, H.2.1, H.2.2.1, H.2.2.2]))
end Go.Proofs.YtjcdkemnflmfiaaGreatA
