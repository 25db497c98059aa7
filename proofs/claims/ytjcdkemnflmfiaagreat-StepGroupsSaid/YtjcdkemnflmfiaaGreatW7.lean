/- Walks through the functions: what makes each relation true. -/
import Derived.Test.YtjcdkemnflmfiaaGreatW0
set_option linter.unusedVariables false
set_option maxRecDepth 100000
namespace Go.Proofs.YtjcdkemnflmfiaaGreatA
open Go Go.Proofs
theorem ref08_Same_go {a0_0 : Bool} {a0_1 : List Int} {a0_2 : List Int} {a1_0 : Bool} {a1_1 : List Int} {a1_2 : List Int} {z : Bool} (H : (∃ c1 : Bool, (ref07_Same_R a0_0 a0_1 a1_0 a1_1 c1 ∧ ((c1 = true ∧ (∃ c4 : Bool, (ref02_Same_R a0_2 a1_2 c4 ∧ (z = c4)))) ∨ (¬ c1 = true ∧ (z = false)))))) : ref08_Same_R a0_0 a0_1 a0_2 a1_0 a1_1 a1_2 z := by
 refine W.ic (zs := [(.agg [.bool a0_0, .ints .u64 a0_1, .ints .u64 a0_2]), (.agg [.bool a1_0, .ints .u64 a1_1, .ints .u64 a1_2])]) Tryz.func13 (by kernel_rfl) (by kernel_rfl) (by kernel_rfl) (by kernel_rfl) ?_
 refine W.adv 13 ?_
 obtain ⟨c1, hc2, H⟩ := H
 refine W.callR (g := 54) (ds := [(.agg [.bool a0_0, .ints .u64 a0_1]), (.agg [.bool a1_0, .ints .u64 a1_1])]) (es := [(.agg [.bool a0_0, .ints .u64 a0_1]), (.agg [.bool a1_0, .ints .u64 a1_1])]) (r := (.bool c1)) (by kernel_rfl) (by kernel_rfl) (Ic.args hc2 (by kernel_rfl)) (by kernel_rfl) ?_
 refine W.adv 1 ?_
 rcases H with ⟨h3, H⟩ | ⟨h3, H⟩
 ·refine W.guard true (w := (c1 == true)) (by kernel_rfl) (congrArg (fun b => b == true) h3) ?_
  refine W.adv 1 ?_
  refine W.guard true (w := (c1 == true)) (by kernel_rfl) (congrArg (fun b => b == true) h3) ?_
  refine W.adv 1 ?_
  refine W.guard true (w := (c1 == true)) (by kernel_rfl) (congrArg (fun b => b == true) h3) ?_
  refine W.adv 1 ?_
  refine W.guard true (w := (c1 == true)) (by kernel_rfl) (congrArg (fun b => b == true) h3) ?_
  refine W.adv 1 ?_
  refine W.guard true (w := (c1 == true)) (by kernel_rfl) (congrArg (fun b => b == true) h3) ?_
  obtain ⟨c4, hc5, H⟩ := H
  refine W.callR (g := 55) (ds := [.ints .u64 a0_2, .ints .u64 a1_2]) (es := [.ints .u64 a0_2, .ints .u64 a1_2]) (r := (.bool c4)) (by kernel_rfl) (by kernel_rfl) (Ic.args hc5 (by kernel_rfl)) (by kernel_rfl) ?_
  refine W.opS (OpIs.pk true (t := c1) (x := (.bool c4)) (y := (.bool false)) (by kernel_rfl) h3) ?_
  refine W.adv 4 ?_
  exact W.fin (x := .ret) (by kernel_rfl) (Ans.of (d := (.bool c4)) (d' := (.bool c4)) (e' := (.bool c4)) (by kernel_rfl) (by kernel_rfl) (by kernel_rfl) (by rw [H]))
 ·refine W.guard false (w := (c1 == true)) (by kernel_rfl) (congrArg (fun b => b == true) (bfalse h3)) ?_
  refine W.guard false (w := (c1 == true)) (by kernel_rfl) (congrArg (fun b => b == true) (bfalse h3)) ?_
  refine W.guard false (w := (c1 == true)) (by kernel_rfl) (congrArg (fun b => b == true) (bfalse h3)) ?_
  refine W.guard false (w := (c1 == true)) (by kernel_rfl) (congrArg (fun b => b == true) (bfalse h3)) ?_
  refine W.guard false (w := (c1 == true)) (by kernel_rfl) (congrArg (fun b => b == true) (bfalse h3)) ?_
  refine W.opS (OpIs.pk false (t := c1) (x := (.tuple [])) (y := (.bool false)) (by kernel_rfl) (bfalse h3)) ?_
  refine W.adv 4 ?_
  exact W.fin (x := .ret) (by kernel_rfl) (Ans.of (d := (.bool false)) (d' := (.bool false)) (e' := (.bool false)) (by kernel_rfl) (by kernel_rfl) (by kernel_rfl) (by rw [H]))
theorem ref08_Back_go {a0_0 : Bool} {a0_1 : List Int} {a0_2 : List Int} {z_0 : Bool} {z_1 : List Int} {z_2 : List Int} (H : (∃ c1_0 : Bool, (∃ c1_1 : List Int, (ref07_Back_R a0_0 a0_1 c1_0 c1_1 ∧ (∃ c3 : List Int, (ref02_Back_R a0_2 c3 ∧ (z_0 = c1_0 ∧ z_1 = c1_1 ∧ z_2 = c3))))))) : ref08_Back_R a0_0 a0_1 a0_2 z_0 z_1 z_2 := by
 refine W.ic (zs := [(.agg [.bool a0_0, .ints .i64 a0_1, .ints .i64 a0_2])]) Tryz.func14 (by kernel_rfl) (by kernel_rfl) (by kernel_rfl) (by kernel_rfl) ?_
 refine W.adv 10 ?_
 obtain ⟨c1_0, c1_1, hc2, H⟩ := H
 refine W.callR (g := 56) (ds := [(.agg [.bool a0_0, .ints .i64 a0_1])]) (es := [(.agg [.bool a0_0, .ints .i64 a0_1])]) (r := (.agg [.bool c1_0, .ints .u64 c1_1])) (by kernel_rfl) (by kernel_rfl) (Ic.args hc2 (by kernel_rfl)) (by kernel_rfl) ?_
 refine W.adv 2 ?_
 obtain ⟨c3, hc4, H⟩ := H
 refine W.callR (g := 57) (ds := [.ints .i64 a0_2]) (es := [.ints .i64 a0_2]) (r := (.ints .u64 c3)) (by kernel_rfl) (by kernel_rfl) (Ic.args hc4 (by kernel_rfl)) (by kernel_rfl) ?_
 refine W.adv 5 ?_
 exact W.fin (x := .ret) (by kernel_rfl) (Ans.of (d := (.agg [.bool c1_0, .ints .u64 c1_1, .ints .u64 c3])) (d' := (.agg [.bool c1_0, .ints .u64 c1_1, .ints .u64 c3])) (e' := (.agg [.bool c1_0, .ints .u64 c1_1, .ints .u64 c3])) (by kernel_rfl) (by kernel_rfl) (by kernel_rfl) (by rw [H.1, H.2.1, H.2.2]))
theorem ref08_Num_go {a0 : Int} {a1 : Int} {z_0 : Bool} {z_1 : List Int} {z_2 : List Int} (H : (∃ c1_0 : Bool, (∃ c1_1 : List Int, (ref07_Num_R a0 c1_0 c1_1 ∧ (∃ c3 : List Int, (ref02_Num_R a1 c3 ∧ (∃ c5_0 : Bool, (∃ c5_1 : List Int, (∃ c5_2 : List Int, (ref08_Low_R c1_0 c1_1 c3 c5_0 c5_1 c5_2 ∧ (z_0 = c5_0 ∧ z_1 = c5_1 ∧ z_2 = c5_2))))))))))) : ref08_Num_R a0 a1 z_0 z_1 z_2 := by
 refine W.ic (zs := [.int .i64 a0, .int .i64 a1]) Tryz.func22 (by kernel_rfl) (by kernel_rfl) (by kernel_rfl) (by kernel_rfl) ?_
 refine W.adv 8 ?_
 obtain ⟨c1_0, c1_1, hc2, H⟩ := H
 refine W.callR (g := 65) (ds := [.int .i64 a0]) (es := [.int .i64 a0]) (r := (.agg [.bool c1_0, .ints .i64 c1_1])) (by kernel_rfl) (by kernel_rfl) (Ic.args hc2 (by kernel_rfl)) (by kernel_rfl) ?_
 refine W.adv 1 ?_
 obtain ⟨c3, hc4, H⟩ := H
 refine W.callR (g := 66) (ds := [.int .i64 a1]) (es := [.int .i64 a1]) (r := (.ints .i64 c3)) (by kernel_rfl) (by kernel_rfl) (Ic.args hc4 (by kernel_rfl)) (by kernel_rfl) ?_
 obtain ⟨c5_0, c5_1, c5_2, hc6, H⟩ := H
 refine W.callR (g := 64) (ds := [(.agg [.bool c1_0, .ints .i64 c1_1]), .ints .i64 c3]) (es := [(.agg [.bool c1_0, .ints .i64 c1_1]), .ints .i64 c3]) (r := (.agg [.bool c5_0, .ints .i64 c5_1, .ints .i64 c5_2])) (by kernel_rfl) (by kernel_rfl) (Ic.args hc6 (by kernel_rfl)) (by kernel_rfl) ?_
 refine W.adv 4 ?_
 exact W.fin (x := .ret) (by kernel_rfl) (Ans.of (d := (.agg [.bool c5_0, .ints .i64 c5_1, .ints .i64 c5_2])) (d' := (.agg [.bool c5_0, .ints .i64 c5_1, .ints .i64 c5_2])) (e' := (.agg [.bool c5_0, .ints .i64 c5_1, .ints .i64 c5_2])) (by kernel_rfl) (by kernel_rfl) (by kernel_rfl) (by rw [H.1, H.2.1, H.2.2]))
theorem ref08_Add_go {a0_0 : Bool} {a0_1 : List Int} {a0_2 : List Int} {a1_0 : Bool} {a1_1 : List Int} {a1_2 : List Int} {z_0 : Bool} {z_1 : List Int} {z_2 : List Int} (H : (∃ c1_0 : Bool, (∃ c1_1 : List Int, (ref07_Mul_R a0_0 a0_1 false a1_2 c1_0 c1_1 ∧ (∃ c3_0 : Bool, (∃ c3_1 : List Int, (ref07_Mul_R a1_0 a1_1 false a0_2 c3_0 c3_1 ∧ (∃ c5_0 : Bool, (∃ c5_1 : List Int, (ref07_Add_R c1_0 c1_1 c3_0 c3_1 c5_0 c5_1 ∧ (∃ c7 : List Int, (ref02_Mul_R a0_2 a1_2 c7 ∧ (∃ c9_0 : Bool, (∃ c9_1 : List Int, (∃ c9_2 : List Int, (ref08_Low_R c5_0 c5_1 c7 c9_0 c9_1 c9_2 ∧ (z_0 = c9_0 ∧ z_1 = c9_1 ∧ z_2 = c9_2))))))))))))))))) : ref08_Add_R a0_0 a0_1 a0_2 a1_0 a1_1 a1_2 z_0 z_1 z_2 := by
 refine W.ic (zs := [(.agg [.bool a0_0, .ints .i64 a0_1, .ints .i64 a0_2]), (.agg [.bool a1_0, .ints .i64 a1_1, .ints .i64 a1_2])]) Tryz.func23 (by kernel_rfl) (by kernel_rfl) (by kernel_rfl) (by kernel_rfl) ?_
 refine W.adv 14 ?_
 obtain ⟨c1_0, c1_1, hc2, H⟩ := H
 refine W.callR (g := 67) (ds := [(.agg [.bool a0_0, .ints .i64 a0_1]), (.agg [.bool false, .ints .i64 a1_2])]) (es := [(.agg [.bool a0_0, .ints .i64 a0_1]), (.agg [.bool false, .ints .i64 a1_2])]) (r := (.agg [.bool c1_0, .ints .i64 c1_1])) (by kernel_rfl) (by kernel_rfl) (Ic.args hc2 (by kernel_rfl)) (by kernel_rfl) ?_
 refine W.adv 5 ?_
 obtain ⟨c3_0, c3_1, hc4, H⟩ := H
 refine W.callR (g := 67) (ds := [(.agg [.bool a1_0, .ints .i64 a1_1]), (.agg [.bool false, .ints .i64 a0_2])]) (es := [(.agg [.bool a1_0, .ints .i64 a1_1]), (.agg [.bool false, .ints .i64 a0_2])]) (r := (.agg [.bool c3_0, .ints .i64 c3_1])) (by kernel_rfl) (by kernel_rfl) (Ic.args hc4 (by kernel_rfl)) (by kernel_rfl) ?_
 refine W.adv 10 ?_
 obtain ⟨c5_0, c5_1, hc6, H⟩ := H
 refine W.callR (g := 68) (ds := [(.agg [.bool c1_0, .ints .i64 c1_1]), (.agg [.bool c3_0, .ints .i64 c3_1])]) (es := [(.agg [.bool c1_0, .ints .i64 c1_1]), (.agg [.bool c3_0, .ints .i64 c3_1])]) (r := (.agg [.bool c5_0, .ints .i64 c5_1])) (by kernel_rfl) (by kernel_rfl) (Ic.args hc6 (by kernel_rfl)) (by kernel_rfl) ?_
 refine W.adv 4 ?_
 obtain ⟨c7, hc8, H⟩ := H
 refine W.callR (g := 69) (ds := [.ints .i64 a0_2, .ints .i64 a1_2]) (es := [.ints .i64 a0_2, .ints .i64 a1_2]) (r := (.ints .i64 c7)) (by kernel_rfl) (by kernel_rfl) (Ic.args hc8 (by kernel_rfl)) (by kernel_rfl) ?_
 obtain ⟨c9_0, c9_1, c9_2, hc10, H⟩ := H
 refine W.callR (g := 64) (ds := [(.agg [.bool c5_0, .ints .i64 c5_1]), .ints .i64 c7]) (es := [(.agg [.bool c5_0, .ints .i64 c5_1]), .ints .i64 c7]) (r := (.agg [.bool c9_0, .ints .i64 c9_1, .ints .i64 c9_2])) (by kernel_rfl) (by kernel_rfl) (Ic.args hc10 (by kernel_rfl)) (by kernel_rfl) ?_
 refine W.adv 4 ?_
 exact W.fin (x := .ret) (by kernel_rfl) (Ans.of (d := (.agg [.bool c9_0, .ints .i64 c9_1, .ints .i64 c9_2])) (d' := (.agg [.bool c9_0, .ints .i64 c9_1, .ints .i64 c9_2])) (e' := (.agg [.bool c9_0, .ints .i64 c9_1, .ints .i64 c9_2])) (by kernel_rfl) (by kernel_rfl) (by kernel_rfl) (by rw [H.1, H.2.1, H.2.2]))
theorem ref08_Div_go {a0_0 : Bool} {a0_1 : List Int} {a0_2 : List Int} {a1_0 : Bool} {a1_1 : List Int} {a1_2 : List Int} {z_0 : Bool} {z_1 : List Int} {z_2 : List Int} (H : (∃ c1_0 : Bool, (∃ c1_1 : List Int, (∃ c1_2 : List Int, (ref08_Inv_R a1_0 a1_1 a1_2 c1_0 c1_1 c1_2 ∧ (∃ c3_0 : Bool, (∃ c3_1 : List Int, (∃ c3_2 : List Int, (ref08_Mul_R a0_0 a0_1 a0_2 c1_0 c1_1 c1_2 c3_0 c3_1 c3_2 ∧ (z_0 = c3_0 ∧ z_1 = c3_1 ∧ z_2 = c3_2)))))))))) : ref08_Div_R a0_0 a0_1 a0_2 a1_0 a1_1 a1_2 z_0 z_1 z_2 := by
 refine W.ic (zs := [(.agg [.bool a0_0, .ints .i64 a0_1, .ints .i64 a0_2]), (.agg [.bool a1_0, .ints .i64 a1_1, .ints .i64 a1_2])]) Tryz.func24 (by kernel_rfl) (by kernel_rfl) (by kernel_rfl) (by kernel_rfl) ?_
 refine W.adv 11 ?_
 obtain ⟨c1_0, c1_1, c1_2, hc2, H⟩ := H
 refine W.callR (g := 70) (ds := [(.agg [.bool a1_0, .ints .i64 a1_1, .ints .i64 a1_2])]) (es := [(.agg [.bool a1_0, .ints .i64 a1_1, .ints .i64 a1_2])]) (r := (.agg [.bool c1_0, .ints .i64 c1_1, .ints .i64 c1_2])) (by kernel_rfl) (by kernel_rfl) (Ic.args hc2 (by kernel_rfl)) (by kernel_rfl) ?_
 obtain ⟨c3_0, c3_1, c3_2, hc4, H⟩ := H
 refine W.callR (g := 53) (ds := [(.agg [.bool a0_0, .ints .i64 a0_1, .ints .i64 a0_2]), (.agg [.bool c1_0, .ints .i64 c1_1, .ints .i64 c1_2])]) (es := [(.agg [.bool a0_0, .ints .i64 a0_1, .ints .i64 a0_2]), (.agg [.bool c1_0, .ints .i64 c1_1, .ints .i64 c1_2])]) (r := (.agg [.bool c3_0, .ints .i64 c3_1, .ints .i64 c3_2])) (by kernel_rfl) (by kernel_rfl) (Ic.args hc4 (by kernel_rfl)) (by kernel_rfl) ?_
 refine W.adv 4 ?_
 exact W.fin (x := .ret) (by kernel_rfl) (Ans.of (d := (.agg [.bool c3_0, .ints .i64 c3_1, .ints .i64 c3_2])) (d' := (.agg [.bool c3_0, .ints .i64 c3_1, .ints .i64 c3_2])) (e' := (.agg [.bool c3_0, .ints .i64 c3_1, .ints .i64 c3_2])) (by kernel_rfl) (by kernel_rfl) (by kernel_rfl) (by rw [H.1, H.2.1, H.2.2]))
theorem ref08_Mul_go {a0_0 : Bool} {a0_1 : List Int} {a0_2 : List Int} {a1_0 : Bool} {a1_1 : List Int} {a1_2 : List Int} {z_0 : Bool} {z_1 : List Int} {z_2 : List Int} (H : (∃ c1_0 : Bool, (∃ c1_1 : List Int, (ref07_Mul_R a0_0 a0_1 a1_0 a1_1 c1_0 c1_1 ∧ (∃ c3 : List Int, (ref02_Mul_R a0_2 a1_2 c3 ∧ (∃ c5_0 : Bool, (∃ c5_1 : List Int, (∃ c5_2 : List Int, (ref08_Low_R c1_0 c1_1 c3 c5_0 c5_1 c5_2 ∧ (z_0 = c5_0 ∧ z_1 = c5_1 ∧ z_2 = c5_2))))))))))) : ref08_Mul_R a0_0 a0_1 a0_2 a1_0 a1_1 a1_2 z_0 z_1 z_2 := by
 refine W.ic (zs := [(.agg [.bool a0_0, .ints .i64 a0_1, .ints .i64 a0_2]), (.agg [.bool a1_0, .ints .i64 a1_1, .ints .i64 a1_2])]) Tryz.func53 (by kernel_rfl) (by kernel_rfl) (by kernel_rfl) (by kernel_rfl) ?_
 refine W.adv 13 ?_
 obtain ⟨c1_0, c1_1, hc2, H⟩ := H
 refine W.callR (g := 67) (ds := [(.agg [.bool a0_0, .ints .i64 a0_1]), (.agg [.bool a1_0, .ints .i64 a1_1])]) (es := [(.agg [.bool a0_0, .ints .i64 a0_1]), (.agg [.bool a1_0, .ints .i64 a1_1])]) (r := (.agg [.bool c1_0, .ints .i64 c1_1])) (by kernel_rfl) (by kernel_rfl) (Ic.args hc2 (by kernel_rfl)) (by kernel_rfl) ?_
 refine W.adv 4 ?_
 obtain ⟨c3, hc4, H⟩ := H
 refine W.callR (g := 69) (ds := [.ints .i64 a0_2, .ints .i64 a1_2]) (es := [.ints .i64 a0_2, .ints .i64 a1_2]) (r := (.ints .i64 c3)) (by kernel_rfl) (by kernel_rfl) (Ic.args hc4 (by kernel_rfl)) (by kernel_rfl) ?_
 obtain ⟨c5_0, c5_1, c5_2, hc6, H⟩ := H
 refine W.callR (g := 64) (ds := [(.agg [.bool c1_0, .ints .i64 c1_1]), .ints .i64 c3]) (es := [(.agg [.bool c1_0, .ints .i64 c1_1]), .ints .i64 c3]) (r := (.agg [.bool c5_0, .ints .i64 c5_1, .ints .i64 c5_2])) (by kernel_rfl) (by kernel_rfl) (Ic.args hc6 (by kernel_rfl)) (by kernel_rfl) ?_
 refine W.adv 4 ?_
 exact W.fin (x := .ret) (by kernel_rfl) (Ans.of (d := (.agg [.bool c5_0, .ints .i64 c5_1, .ints .i64 c5_2])) (d' := (.agg [.bool c5_0, .ints .i64 c5_1, .ints .i64 c5_2])) (e' := (.agg [.bool c5_0, .ints .i64 c5_1, .ints .i64 c5_2])) (by kernel_rfl) (by kernel_rfl) (by kernel_rfl) (by rw [H.1, H.2.1, H.2.2]))
theorem ref08_Low_go {a0_0 : Bool} {a0_1 : List Int} {a1 : List Int} {z_0 : Bool} {z_1 : List Int} {z_2 : List Int} (H : (∃ c1 : List Int, (ref02_Gcd_R a0_1 a1 c1 ∧ (∃ c3t0 : List Int, (∃ c3t1 : List Int, (ref02_Div_R a0_1 c1 c3t0 c3t1 ∧ (∃ c5t0 : List Int, (∃ c5t1 : List Int, (ref02_Div_R a1 c1 c5t0 c5t1 ∧ ((a0_0 = true ∧ (z_0 = (decide (0 < (c3t0.length : Int))) ∧ z_1 = c3t0 ∧ z_2 = c5t0)) ∨ (¬ a0_0 = true ∧ (z_0 = false ∧ z_1 = c3t0 ∧ z_2 = c5t0)))))))))))) : ref08_Low_R a0_0 a0_1 a1 z_0 z_1 z_2 := by
 refine W.ic (zs := [(.agg [.bool a0_0, .ints .i64 a0_1]), .ints .i64 a1]) Tryz.func64 (by kernel_rfl) (by kernel_rfl) (by kernel_rfl) (by kernel_rfl) ?_
 refine W.adv 11 ?_
 obtain ⟨c1, hc2, H⟩ := H
 refine W.callR (g := 123) (ds := [.ints .i64 a0_1, .ints .i64 a1]) (es := [.ints .i64 a0_1, .ints .i64 a1]) (r := (.ints .i64 c1)) (by kernel_rfl) (by kernel_rfl) (Ic.args hc2 (by kernel_rfl)) (by kernel_rfl) ?_
 refine W.adv 8 ?_
 obtain ⟨c3t0, c3t1, hc4, H⟩ := H
 refine W.callR (g := 124) (ds := [.ints .i64 a0_1, .ints .i64 c1]) (es := [.ints .i64 a0_1, .ints .i64 c1]) (r := (.tuple [.ints .i64 c3t0, .ints .i64 c3t1])) (by kernel_rfl) (by kernel_rfl) (Ic.args hc4 (by kernel_rfl)) (by kernel_rfl) ?_
 refine W.adv 11 ?_
 obtain ⟨c5t0, c5t1, hc6, H⟩ := H
 refine W.callR (g := 124) (ds := [.ints .i64 a1, .ints .i64 c1]) (es := [.ints .i64 a1, .ints .i64 c1]) (r := (.tuple [.ints .i64 c5t0, .ints .i64 c5t1])) (by kernel_rfl) (by kernel_rfl) (Ic.args hc6 (by kernel_rfl)) (by kernel_rfl) ?_
 refine W.adv 12 ?_
 rcases H with ⟨h7, H⟩ | ⟨h7, H⟩
 ·refine W.guard true (w := (a0_0 == true)) (by kernel_rfl) (congrArg (fun b => b == true) h7) ?_
  refine W.adv 1 ?_
  refine W.guard true (w := (a0_0 == true)) (by kernel_rfl) (congrArg (fun b => b == true) h7) ?_
  refine W.adv 1 ?_
  refine W.guard true (w := (a0_0 == true)) (by kernel_rfl) (congrArg (fun b => b == true) h7) ?_
  refine W.adv 1 ?_
  refine W.opS (OpIs.pk true (t := a0_0) (x := (.bool (decide (0 < (c3t0.length : Int))))) (y := (.bool false)) (by kernel_rfl) h7) ?_
  refine W.adv 8 ?_
  exact W.fin (x := .ret) (by kernel_rfl) (Ans.of (d := (.agg [(.bool (decide (0 < (c3t0.length : Int)))), .ints .i64 c3t0, .ints .i64 c5t0])) (d' := (.agg [(.bool (decide (0 < (c3t0.length : Int)))), .ints .i64 c3t0, .ints .i64 c5t0])) (e' := (.agg [(.bool (decide (0 < (c3t0.length : Int)))), .ints .i64 c3t0, .ints .i64 c5t0])) (by kernel_rfl) (by kernel_rfl) (by kernel_rfl) (by rw [H.1, H.2.1, H.2.2]))
 ·refine W.guard false (w := (a0_0 == true)) (by kernel_rfl) (congrArg (fun b => b == true) (bfalse h7)) ?_
  refine W.guard false (w := (a0_0 == true)) (by kernel_rfl) (congrArg (fun b => b == true) (bfalse h7)) ?_
  refine W.guard false (w := (a0_0 == true)) (by kernel_rfl) (congrArg (fun b => b == true) (bfalse h7)) ?_
  refine W.opS (OpIs.pk false (t := a0_0) (x := (.tuple [])) (y := (.bool false)) (by kernel_rfl) (bfalse h7)) ?_
  refine W.adv 8 ?_
  exact W.fin (x := .ret) (by kernel_rfl) (Ans.of (d := (.agg [.bool false, .ints .i64 c3t0, .ints .i64 c5t0])) (d' := (.agg [.bool false, .ints .i64 c3t0, .ints .i64 c5t0])) (e' := (.agg [.bool false, .ints .i64 c3t0, .ints .i64 c5t0])) (by kernel_rfl) (by kernel_rfl) (by kernel_rfl) (by rw [H.1, H.2.1, H.2.2]))
theorem ref08_Inv_go {a0_0 : Bool} {a0_1 : List Int} {a0_2 : List Int} {z_0 : Bool} {z_1 : List Int} {z_2 : List Int} (H : (z_0 = a0_0 ∧ z_1 = a0_2 ∧ z_2 = a0_1)) : ref08_Inv_R a0_0 a0_1 a0_2 z_0 z_1 z_2 := by
 refine W.ic (zs := [(.agg [.bool a0_0, .ints .i64 a0_1, .ints .i64 a0_2])]) Tryz.func70 (by kernel_rfl) (by kernel_rfl) (by kernel_rfl) (by kernel_rfl) ?_
 refine W.adv 22 ?_
 exact W.fin (x := .ret) (by kernel_rfl) (Ans.of (d := (.agg [.bool a0_0, .ints .i64 a0_2, .ints .i64 a0_1])) (d' := (.agg [.bool a0_0, .ints .i64 a0_2, .ints .i64 a0_1])) (e' := (.agg [.bool a0_0, .ints .i64 a0_2, .ints .i64 a0_1])) (by kernel_rfl) (by kernel_rfl) (by kernel_rfl) (by rw [H.1, H.2.1, H.2.2]))
end Go.Proofs.YtjcdkemnflmfiaaGreatA
