/- Walks through the functions: what makes each relation true. -/
import Derived.Test.YtmdgdgfhgaeddaaGreatW0
set_option linter.unusedVariables false
set_option maxRecDepth 100000
namespace Go.Proofs.YtmdgdgfhgaeddaaGreatA
open Go Go.Proofs
/-! ### trivium/triviumref08.Num -/
theorem ref08_Num_go {a0 : Int} {a1 : Int} {z_0 : Bool} {z_1 : List Int} {z_2 : List Int} (H : (∃ c1_0 : Bool, (∃ c1_1 : List Int, (ref07_Num_R a0 c1_0 c1_1 ∧ (∃ c3 : List Int, (ref02_Num_R a1 c3 ∧ (∃ c5_0 : Bool, (∃ c5_1 : List Int, (∃ c5_2 : List Int, (ref08_Low_R c1_0 c1_1 c3 c5_0 c5_1 c5_2 ∧ (z_0 = c5_0 ∧ z_1 = c5_1 ∧ z_2 = c5_2))))))))))) : ref08_Num_R a0 a1 z_0 z_1 z_2 := by
  refine W.ic (zs := [.int .i64 a0, .int .i64 a1]) Tryz.func9 (by kernel_rfl) (by kernel_rfl) (by kernel_rfl) (by kernel_rfl) ?_
  refine W.adv 8 ?_
  obtain ⟨c1_0, c1_1, hc2, H⟩ := H
  refine W.callR (g := 26) (ds := [.int .i64 a0]) (es := [.int .i64 a0]) (r := (.agg [.bool c1_0, .ints .i64 c1_1])) (by kernel_rfl) (by kernel_rfl) (Ic.args hc2 (by kernel_rfl)) (by kernel_rfl) ?_
  refine W.adv 1 ?_
  obtain ⟨c3, hc4, H⟩ := H
  refine W.callR (g := 27) (ds := [.int .i64 a1]) (es := [.int .i64 a1]) (r := (.ints .i64 c3)) (by kernel_rfl) (by kernel_rfl) (Ic.args hc4 (by kernel_rfl)) (by kernel_rfl) ?_
  obtain ⟨c5_0, c5_1, c5_2, hc6, H⟩ := H
  refine W.callR (g := 25) (ds := [(.agg [.bool c1_0, .ints .i64 c1_1]), .ints .i64 c3]) (es := [(.agg [.bool c1_0, .ints .i64 c1_1]), .ints .i64 c3]) (r := (.agg [.bool c5_0, .ints .i64 c5_1, .ints .i64 c5_2])) (by kernel_rfl) (by kernel_rfl) (Ic.args hc6 (by kernel_rfl)) (by kernel_rfl) ?_
  refine W.adv 4 ?_
  exact W.fin (x := .ret) (by kernel_rfl) (Ans.of (d := (.agg [.bool c5_0, .ints .i64 c5_1, .ints .i64 c5_2])) (d' := (.agg [.bool c5_0, .ints .i64 c5_1, .ints .i64 c5_2])) (e' := (.agg [.bool c5_0, .ints .i64 c5_1, .ints .i64 c5_2])) (by kernel_rfl) (by kernel_rfl) (by kernel_rfl) (by rw [H.1, H.2.1, H.2.2]))
/-! ### trivium/triviumref08.Add -/
theorem ref08_Add_go {a0_0 : Bool} {a0_1 : List Int} {a0_2 : List Int} {a1_0 : Bool} {a1_1 : List Int} {a1_2 : List Int} {z_0 : Bool} {z_1 : List Int} {z_2 : List Int} (H : (∃ c1_0 : Bool, (∃ c1_1 : List Int, (ref07_Mul_R a0_0 a0_1 false a1_2 c1_0 c1_1 ∧ (∃ c3_0 : Bool, (∃ c3_1 : List Int, (ref07_Mul_R a1_0 a1_1 false a0_2 c3_0 c3_1 ∧ (∃ c5_0 : Bool, (∃ c5_1 : List Int, (ref07_Add_R c1_0 c1_1 c3_0 c3_1 c5_0 c5_1 ∧ (∃ c7 : List Int, (ref02_Mul_R a0_2 a1_2 c7 ∧ (∃ c9_0 : Bool, (∃ c9_1 : List Int, (∃ c9_2 : List Int, (ref08_Low_R c5_0 c5_1 c7 c9_0 c9_1 c9_2 ∧ (z_0 = c9_0 ∧ z_1 = c9_1 ∧ z_2 = c9_2))))))))))))))))) : ref08_Add_R a0_0 a0_1 a0_2 a1_0 a1_1 a1_2 z_0 z_1 z_2 := by
  refine W.ic (zs := [(.agg [.bool a0_0, .ints .i64 a0_1, .ints .i64 a0_2]), (.agg [.bool a1_0, .ints .i64 a1_1, .ints .i64 a1_2])]) Tryz.func10 (by kernel_rfl) (by kernel_rfl) (by kernel_rfl) (by kernel_rfl) ?_
  refine W.adv 14 ?_
  obtain ⟨c1_0, c1_1, hc2, H⟩ := H
  refine W.callR (g := 28) (ds := [(.agg [.bool a0_0, .ints .i64 a0_1]), (.agg [.bool false, .ints .i64 a1_2])]) (es := [(.agg [.bool a0_0, .ints .i64 a0_1]), (.agg [.bool false, .ints .i64 a1_2])]) (r := (.agg [.bool c1_0, .ints .i64 c1_1])) (by kernel_rfl) (by kernel_rfl) (Ic.args hc2 (by kernel_rfl)) (by kernel_rfl) ?_
  refine W.adv 5 ?_
  obtain ⟨c3_0, c3_1, hc4, H⟩ := H
  refine W.callR (g := 28) (ds := [(.agg [.bool a1_0, .ints .i64 a1_1]), (.agg [.bool false, .ints .i64 a0_2])]) (es := [(.agg [.bool a1_0, .ints .i64 a1_1]), (.agg [.bool false, .ints .i64 a0_2])]) (r := (.agg [.bool c3_0, .ints .i64 c3_1])) (by kernel_rfl) (by kernel_rfl) (Ic.args hc4 (by kernel_rfl)) (by kernel_rfl) ?_
  refine W.adv 10 ?_
  obtain ⟨c5_0, c5_1, hc6, H⟩ := H
  refine W.callR (g := 29) (ds := [(.agg [.bool c1_0, .ints .i64 c1_1]), (.agg [.bool c3_0, .ints .i64 c3_1])]) (es := [(.agg [.bool c1_0, .ints .i64 c1_1]), (.agg [.bool c3_0, .ints .i64 c3_1])]) (r := (.agg [.bool c5_0, .ints .i64 c5_1])) (by kernel_rfl) (by kernel_rfl) (Ic.args hc6 (by kernel_rfl)) (by kernel_rfl) ?_
  refine W.adv 4 ?_
  obtain ⟨c7, hc8, H⟩ := H
  refine W.callR (g := 30) (ds := [.ints .i64 a0_2, .ints .i64 a1_2]) (es := [.ints .i64 a0_2, .ints .i64 a1_2]) (r := (.ints .i64 c7)) (by kernel_rfl) (by kernel_rfl) (Ic.args hc8 (by kernel_rfl)) (by kernel_rfl) ?_
  obtain ⟨c9_0, c9_1, c9_2, hc10, H⟩ := H
  refine W.callR (g := 25) (ds := [(.agg [.bool c5_0, .ints .i64 c5_1]), .ints .i64 c7]) (es := [(.agg [.bool c5_0, .ints .i64 c5_1]), .ints .i64 c7]) (r := (.agg [.bool c9_0, .ints .i64 c9_1, .ints .i64 c9_2])) (by kernel_rfl) (by kernel_rfl) (Ic.args hc10 (by kernel_rfl)) (by kernel_rfl) ?_
  refine W.adv 4 ?_
  exact W.fin (x := .ret) (by kernel_rfl) (Ans.of (d := (.agg [.bool c9_0, .ints .i64 c9_1, .ints .i64 c9_2])) (d' := (.agg [.bool c9_0, .ints .i64 c9_1, .ints .i64 c9_2])) (e' := (.agg [.bool c9_0, .ints .i64 c9_1, .ints .i64 c9_2])) (by kernel_rfl) (by kernel_rfl) (by kernel_rfl) (by rw [H.1, H.2.1, H.2.2]))
/-! ### trivium/triviumref08.Same -/
theorem ref08_Same_go {a0_0 : Bool} {a0_1 : List Int} {a0_2 : List Int} {a1_0 : Bool} {a1_1 : List Int} {a1_2 : List Int} {z : Bool} (H : (∃ c1 : Bool, (ref07_Same_R a0_0 a0_1 a1_0 a1_1 c1 ∧ ((c1 = true ∧ (∃ c4 : Bool, (ref02_Same_R a0_2 a1_2 c4 ∧ (z = c4)))) ∨ (¬ c1 = true ∧ (z = false)))))) : ref08_Same_R a0_0 a0_1 a0_2 a1_0 a1_1 a1_2 z := by
  refine W.ic (zs := [(.agg [.bool a0_0, .ints .u64 a0_1, .ints .u64 a0_2]), (.agg [.bool a1_0, .ints .u64 a1_1, .ints .u64 a1_2])]) Tryz.func11 (by kernel_rfl) (by kernel_rfl) (by kernel_rfl) (by kernel_rfl) ?_
  refine W.adv 13 ?_
  obtain ⟨c1, hc2, H⟩ := H
  refine W.callR (g := 31) (ds := [(.agg [.bool a0_0, .ints .u64 a0_1]), (.agg [.bool a1_0, .ints .u64 a1_1])]) (es := [(.agg [.bool a0_0, .ints .u64 a0_1]), (.agg [.bool a1_0, .ints .u64 a1_1])]) (r := (.bool c1)) (by kernel_rfl) (by kernel_rfl) (Ic.args hc2 (by kernel_rfl)) (by kernel_rfl) ?_
  refine W.adv 1 ?_
  rcases H with ⟨h3, H⟩ | ⟨h3, H⟩
  · refine W.guard true (w := (c1 == true)) (by kernel_rfl) (congrArg (fun b => b == true) h3) ?_
    refine W.adv 1 ?_
    refine W.guard true (w := (c1 == true)) (by kernel_rfl) (congrArg (fun b => b == true) h3) ?_
    refine W.adv 1 ?_
    refine W.guard true (w := (c1 == true)) (by kernel_rfl) (congrArg (fun b => b == true) h3) ?_
    refine W.adv 1 ?_
    refine W.guard true (w := (c1 == true)) (by kernel_rfl) (congrArg (fun b => b == true) h3) ?_
    refine W.adv 1 ?_
    refine W.guard true (w := (c1 == true)) (by kernel_rfl) (congrArg (fun b => b == true) h3) ?_
    obtain ⟨c4, hc5, H⟩ := H
    refine W.callR (g := 32) (ds := [.ints .u64 a0_2, .ints .u64 a1_2]) (es := [.ints .u64 a0_2, .ints .u64 a1_2]) (r := (.bool c4)) (by kernel_rfl) (by kernel_rfl) (Ic.args hc5 (by kernel_rfl)) (by kernel_rfl) ?_
    refine W.opS (OpIs.pk true (t := c1) (x := (.bool c4)) (y := (.bool false)) (by kernel_rfl) h3) ?_
    refine W.adv 4 ?_
    exact W.fin (x := .ret) (by kernel_rfl) (Ans.of (d := (.bool c4)) (d' := (.bool c4)) (e' := (.bool c4)) (by kernel_rfl) (by kernel_rfl) (by kernel_rfl) (by rw [H]))
  · refine W.guard false (w := (c1 == true)) (by kernel_rfl) (congrArg (fun b => b == true) (bfalse h3)) ?_
    refine W.guard false (w := (c1 == true)) (by kernel_rfl) (congrArg (fun b => b == true) (bfalse h3)) ?_
    refine W.guard false (w := (c1 == true)) (by kernel_rfl) (congrArg (fun b => b == true) (bfalse h3)) ?_
    refine W.guard false (w := (c1 == true)) (by kernel_rfl) (congrArg (fun b => b == true) (bfalse h3)) ?_
    refine W.guard false (w := (c1 == true)) (by kernel_rfl) (congrArg (fun b => b == true) (bfalse h3)) ?_
    refine W.opS (OpIs.pk false (t := c1) (x := (.tuple [])) (y := (.bool false)) (by kernel_rfl) (bfalse h3)) ?_
    refine W.adv 4 ?_
    exact W.fin (x := .ret) (by kernel_rfl) (Ans.of (d := (.bool false)) (d' := (.bool false)) (e' := (.bool false)) (by kernel_rfl) (by kernel_rfl) (by kernel_rfl) (by rw [H]))
/-! ### trivium/triviumref08.Back -/
theorem ref08_Back_go {a0_0 : Bool} {a0_1 : List Int} {a0_2 : List Int} {z_0 : Bool} {z_1 : List Int} {z_2 : List Int} (H : (∃ c1_0 : Bool, (∃ c1_1 : List Int, (ref07_Back_R a0_0 a0_1 c1_0 c1_1 ∧ (∃ c3 : List Int, (ref02_Back_R a0_2 c3 ∧ (z_0 = c1_0 ∧ z_1 = c1_1 ∧ z_2 = c3))))))) : ref08_Back_R a0_0 a0_1 a0_2 z_0 z_1 z_2 := by
  refine W.ic (zs := [(.agg [.bool a0_0, .ints .i64 a0_1, .ints .i64 a0_2])]) Tryz.func12 (by kernel_rfl) (by kernel_rfl) (by kernel_rfl) (by kernel_rfl) ?_
  refine W.adv 10 ?_
  obtain ⟨c1_0, c1_1, hc2, H⟩ := H
  refine W.callR (g := 33) (ds := [(.agg [.bool a0_0, .ints .i64 a0_1])]) (es := [(.agg [.bool a0_0, .ints .i64 a0_1])]) (r := (.agg [.bool c1_0, .ints .u64 c1_1])) (by kernel_rfl) (by kernel_rfl) (Ic.args hc2 (by kernel_rfl)) (by kernel_rfl) ?_
  refine W.adv 2 ?_
  obtain ⟨c3, hc4, H⟩ := H
  refine W.callR (g := 34) (ds := [.ints .i64 a0_2]) (es := [.ints .i64 a0_2]) (r := (.ints .u64 c3)) (by kernel_rfl) (by kernel_rfl) (Ic.args hc4 (by kernel_rfl)) (by kernel_rfl) ?_
  refine W.adv 5 ?_
  exact W.fin (x := .ret) (by kernel_rfl) (Ans.of (d := (.agg [.bool c1_0, .ints .u64 c1_1, .ints .u64 c3])) (d' := (.agg [.bool c1_0, .ints .u64 c1_1, .ints .u64 c3])) (e' := (.agg [.bool c1_0, .ints .u64 c1_1, .ints .u64 c3])) (by kernel_rfl) (by kernel_rfl) (by kernel_rfl) (by rw [H.1, H.2.1, H.2.2]))
/-! ### trivium/triviumref08.Cmp -/
theorem ref08_Cmp_go {a0_0 : Bool} {a0_1 : List Int} {a0_2 : List Int} {a1_0 : Bool} {a1_1 : List Int} {a1_2 : List Int} {z : Int} (H : (∃ c1_0 : Bool, (∃ c1_1 : List Int, (∃ c1_2 : List Int, (ref08_Sub_R a0_0 a0_1 a0_2 a1_0 a1_1 a1_2 c1_0 c1_1 c1_2 ∧ (∃ c3 : Int, (ref08_Sign_R c1_0 c1_1 c1_2 c3 ∧ (z = c3)))))))) : ref08_Cmp_R a0_0 a0_1 a0_2 a1_0 a1_1 a1_2 z := by
  refine W.ic (zs := [(.agg [.bool a0_0, .ints .i64 a0_1, .ints .i64 a0_2]), (.agg [.bool a1_0, .ints .i64 a1_1, .ints .i64 a1_2])]) Tryz.func13 (by kernel_rfl) (by kernel_rfl) (by kernel_rfl) (by kernel_rfl) ?_
  refine W.adv 11 ?_
  obtain ⟨c1_0, c1_1, c1_2, hc2, H⟩ := H
  refine W.callR (g := 36) (ds := [(.agg [.bool a0_0, .ints .i64 a0_1, .ints .i64 a0_2]), (.agg [.bool a1_0, .ints .i64 a1_1, .ints .i64 a1_2])]) (es := [(.agg [.bool a0_0, .ints .i64 a0_1, .ints .i64 a0_2]), (.agg [.bool a1_0, .ints .i64 a1_1, .ints .i64 a1_2])]) (r := (.agg [.bool c1_0, .ints .i64 c1_1, .ints .i64 c1_2])) (by kernel_rfl) (by kernel_rfl) (Ic.args hc2 (by kernel_rfl)) (by kernel_rfl) ?_
  obtain ⟨c3, hc4, H⟩ := H
  refine W.callR (g := 35) (ds := [(.agg [.bool c1_0, .ints .i64 c1_1, .ints .i64 c1_2])]) (es := [(.agg [.bool c1_0, .ints .i64 c1_1, .ints .i64 c1_2])]) (r := (.int .i64 c3)) (by kernel_rfl) (by kernel_rfl) (Ic.args hc4 (by kernel_rfl)) (by kernel_rfl) ?_
  refine W.adv 4 ?_
  exact W.fin (x := .ret) (by kernel_rfl) (Ans.of (d := (.int .i64 c3)) (d' := (.int .i64 c3)) (e' := (.int .i64 c3)) (by kernel_rfl) (by kernel_rfl) (by kernel_rfl) (by rw [H]))
/-! ### trivium/triviumref08.Of -/
theorem ref08_Of_go {a0_0 : Bool} {a0_1 : List Int} {a0_2 : List Int} {z_0 : Bool} {z_1 : List Int} {z_2 : List Int} (H : (∃ c1_0 : Bool, (∃ c1_1 : List Int, (ref07_Of_R a0_0 a0_1 c1_0 c1_1 ∧ (∃ c3 : List Int, (ref02_Of_R a0_2 c3 ∧ (z_0 = c1_0 ∧ z_1 = c1_1 ∧ z_2 = c3))))))) : ref08_Of_R a0_0 a0_1 a0_2 z_0 z_1 z_2 := by
  refine W.ic (zs := [(.agg [.bool a0_0, .ints .u64 a0_1, .ints .u64 a0_2])]) Tryz.func14 (by kernel_rfl) (by kernel_rfl) (by kernel_rfl) (by kernel_rfl) ?_
  refine W.adv 10 ?_
  obtain ⟨c1_0, c1_1, hc2, H⟩ := H
  refine W.callR (g := 37) (ds := [(.agg [.bool a0_0, .ints .u64 a0_1])]) (es := [(.agg [.bool a0_0, .ints .u64 a0_1])]) (r := (.agg [.bool c1_0, .ints .i64 c1_1])) (by kernel_rfl) (by kernel_rfl) (Ic.args hc2 (by kernel_rfl)) (by kernel_rfl) ?_
  refine W.adv 2 ?_
  obtain ⟨c3, hc4, H⟩ := H
  refine W.callR (g := 38) (ds := [.ints .u64 a0_2]) (es := [.ints .u64 a0_2]) (r := (.ints .i64 c3)) (by kernel_rfl) (by kernel_rfl) (Ic.args hc4 (by kernel_rfl)) (by kernel_rfl) ?_
  refine W.adv 5 ?_
  exact W.fin (x := .ret) (by kernel_rfl) (Ans.of (d := (.agg [.bool c1_0, .ints .i64 c1_1, .ints .i64 c3])) (d' := (.agg [.bool c1_0, .ints .i64 c1_1, .ints .i64 c3])) (e' := (.agg [.bool c1_0, .ints .i64 c1_1, .ints .i64 c3])) (by kernel_rfl) (by kernel_rfl) (by kernel_rfl) (by rw [H.1, H.2.1, H.2.2]))
/-! ### trivium/triviumref08.Clean -/
theorem ref08_Clean_go {a0_0 : Bool} {a0_1 : List Int} {a0_2 : List Int} {a1 : Int} {z_0 : Bool} {z_1 : List Int} {z_2 : List Int} (H : (∃ c1 : List Int, (ref02_Clean_R a0_2 a1 c1 ∧ (((c1.length : Int) = 0 ∧ (∃ c4_0 : Bool, (∃ c4_1 : List Int, (ref07_Clean_R a0_0 a0_1 a1 c4_0 c4_1 ∧ (∃ c6_0 : Bool, (∃ c6_1 : List Int, (ref07_Of_R c4_0 c4_1 c6_0 c6_1 ∧ (∃ c8 : List Int, (ref02_Of_R [1] c8 ∧ (∃ c10_0 : Bool, (∃ c10_1 : List Int, (∃ c10_2 : List Int, (ref08_Low_R c6_0 c6_1 c8 c10_0 c10_1 c10_2 ∧ (∃ c12_0 : Bool, (∃ c12_1 : List Int, (∃ c12_2 : List Int, (ref08_Back_R c10_0 c10_1 c10_2 c12_0 c12_1 c12_2 ∧ (z_0 = c12_0 ∧ z_1 = c12_1 ∧ z_2 = c12_2)))))))))))))))))) ∨ (¬ (c1.length : Int) = 0 ∧ (∃ c14_0 : Bool, (∃ c14_1 : List Int, (ref07_Clean_R a0_0 a0_1 a1 c14_0 c14_1 ∧ (∃ c16_0 : Bool, (∃ c16_1 : List Int, (ref07_Of_R c14_0 c14_1 c16_0 c16_1 ∧ (∃ c18 : List Int, (ref02_Of_R c1 c18 ∧ (∃ c20_0 : Bool, (∃ c20_1 : List Int, (∃ c20_2 : List Int, (ref08_Low_R c16_0 c16_1 c18 c20_0 c20_1 c20_2 ∧ (∃ c22_0 : Bool, (∃ c22_1 : List Int, (∃ c22_2 : List Int, (ref08_Back_R c20_0 c20_1 c20_2 c22_0 c22_1 c22_2 ∧ (z_0 = c22_0 ∧ z_1 = c22_1 ∧ z_2 = c22_2)))))))))))))))))))))) : ref08_Clean_R a0_0 a0_1 a0_2 a1 z_0 z_1 z_2 := by
  refine W.ic (zs := [(.agg [.bool a0_0, .ints .u64 a0_1, .ints .u64 a0_2]), .int .i64 a1]) Tryz.func15 (by kernel_rfl) (by kernel_rfl) (by kernel_rfl) (by kernel_rfl) ?_
  refine W.adv 11 ?_
  obtain ⟨c1, hc2, H⟩ := H
  refine W.callR (g := 39) (ds := [.ints .u64 a0_2, .int .i64 a1]) (es := [.ints .u64 a0_2, .int .i64 a1]) (r := (.ints .u64 c1)) (by kernel_rfl) (by kernel_rfl) (Ic.args hc2 (by kernel_rfl)) (by kernel_rfl) ?_
  refine W.adv 11 ?_
  rcases H with ⟨h3, H⟩ | ⟨h3, H⟩
  · refine W.cond true (w := (decide ((c1.length : Int) = 0))) (by kernel_rfl) (decide_eq_true h3) ?_
    refine W.adv 10 ?_
    obtain ⟨c4_0, c4_1, hc5, H⟩ := H
    refine W.callR (g := 40) (ds := [(.agg [.bool a0_0, .ints .u64 a0_1]), .int .i64 a1]) (es := [(.agg [.bool a0_0, .ints .u64 a0_1]), .int .i64 a1]) (r := (.agg [.bool c4_0, .ints .u64 c4_1])) (by kernel_rfl) (by kernel_rfl) (Ic.args hc5 (by kernel_rfl)) (by kernel_rfl) ?_
    obtain ⟨c6_0, c6_1, hc7, H⟩ := H
    refine W.callR (g := 37) (ds := [(.agg [.bool c4_0, .ints .u64 c4_1])]) (es := [(.agg [.bool c4_0, .ints .u64 c4_1])]) (r := (.agg [.bool c6_0, .ints .i64 c6_1])) (by kernel_rfl) (by kernel_rfl) (Ic.args hc7 (by kernel_rfl)) (by kernel_rfl) ?_
    refine W.adv 1 ?_
    obtain ⟨c8, hc9, H⟩ := H
    refine W.callR (g := 38) (ds := [(.lit (.ints .u64 [1]))]) (es := [.ints .u64 [1]]) (r := (.ints .i64 c8)) (by kernel_rfl) (by kernel_rfl) (Ic.args hc9 (by kernel_rfl)) (by kernel_rfl) ?_
    obtain ⟨c10_0, c10_1, c10_2, hc11, H⟩ := H
    refine W.callR (g := 25) (ds := [(.agg [.bool c6_0, .ints .i64 c6_1]), .ints .i64 c8]) (es := [(.agg [.bool c6_0, .ints .i64 c6_1]), .ints .i64 c8]) (r := (.agg [.bool c10_0, .ints .i64 c10_1, .ints .i64 c10_2])) (by kernel_rfl) (by kernel_rfl) (Ic.args hc11 (by kernel_rfl)) (by kernel_rfl) ?_
    obtain ⟨c12_0, c12_1, c12_2, hc13, H⟩ := H
    refine W.callR (g := 12) (ds := [(.agg [.bool c10_0, .ints .i64 c10_1, .ints .i64 c10_2])]) (es := [(.agg [.bool c10_0, .ints .i64 c10_1, .ints .i64 c10_2])]) (r := (.agg [.bool c12_0, .ints .u64 c12_1, .ints .u64 c12_2])) (by kernel_rfl) (by kernel_rfl) (Ic.args hc13 (by kernel_rfl)) (by kernel_rfl) ?_
    refine W.adv 4 ?_
    exact W.fin (x := .ret) (by kernel_rfl) (Ans.of (d := (.agg [.bool c12_0, .ints .u64 c12_1, .ints .u64 c12_2])) (d' := (.agg [.bool c12_0, .ints .u64 c12_1, .ints .u64 c12_2])) (e' := (.agg [.bool c12_0, .ints .u64 c12_1, .ints .u64 c12_2])) (by kernel_rfl) (by kernel_rfl) (by kernel_rfl) (by rw [H.1, H.2.1, H.2.2]))
  · refine W.cond false (w := (decide ((c1.length : Int) = 0))) (by kernel_rfl) (decide_eq_false h3) ?_
    refine W.adv 7 ?_
    obtain ⟨c14_0, c14_1, hc15, H⟩ := H
    refine W.callR (g := 40) (ds := [(.agg [.bool a0_0, .ints .u64 a0_1]), .int .i64 a1]) (es := [(.agg [.bool a0_0, .ints .u64 a0_1]), .int .i64 a1]) (r := (.agg [.bool c14_0, .ints .u64 c14_1])) (by kernel_rfl) (by kernel_rfl) (Ic.args hc15 (by kernel_rfl)) (by kernel_rfl) ?_
    obtain ⟨c16_0, c16_1, hc17, H⟩ := H
    refine W.callR (g := 37) (ds := [(.agg [.bool c14_0, .ints .u64 c14_1])]) (es := [(.agg [.bool c14_0, .ints .u64 c14_1])]) (r := (.agg [.bool c16_0, .ints .i64 c16_1])) (by kernel_rfl) (by kernel_rfl) (Ic.args hc17 (by kernel_rfl)) (by kernel_rfl) ?_
    refine W.adv 1 ?_
    obtain ⟨c18, hc19, H⟩ := H
    refine W.callR (g := 38) (ds := [.ints .u64 c1]) (es := [.ints .u64 c1]) (r := (.ints .i64 c18)) (by kernel_rfl) (by kernel_rfl) (Ic.args hc19 (by kernel_rfl)) (by kernel_rfl) ?_
    obtain ⟨c20_0, c20_1, c20_2, hc21, H⟩ := H
    refine W.callR (g := 25) (ds := [(.agg [.bool c16_0, .ints .i64 c16_1]), .ints .i64 c18]) (es := [(.agg [.bool c16_0, .ints .i64 c16_1]), .ints .i64 c18]) (r := (.agg [.bool c20_0, .ints .i64 c20_1, .ints .i64 c20_2])) (by kernel_rfl) (by kernel_rfl) (Ic.args hc21 (by kernel_rfl)) (by kernel_rfl) ?_
    obtain ⟨c22_0, c22_1, c22_2, hc23, H⟩ := H
    refine W.callR (g := 12) (ds := [(.agg [.bool c20_0, .ints .i64 c20_1, .ints .i64 c20_2])]) (es := [(.agg [.bool c20_0, .ints .i64 c20_1, .ints .i64 c20_2])]) (r := (.agg [.bool c22_0, .ints .u64 c22_1, .ints .u64 c22_2])) (by kernel_rfl) (by kernel_rfl) (Ic.args hc23 (by kernel_rfl)) (by kernel_rfl) ?_
    refine W.adv 4 ?_
    exact W.fin (x := .ret) (by kernel_rfl) (Ans.of (d := (.agg [.bool c22_0, .ints .u64 c22_1, .ints .u64 c22_2])) (d' := (.agg [.bool c22_0, .ints .u64 c22_1, .ints .u64 c22_2])) (e' := (.agg [.bool c22_0, .ints .u64 c22_1, .ints .u64 c22_2])) (by kernel_rfl) (by kernel_rfl) (by kernel_rfl) (by rw [H.1, H.2.1, H.2.2]))
/-! ### trivium/triviumref08.Low -/
theorem ref08_Low_go {a0_0 : Bool} {a0_1 : List Int} {a1 : List Int} {z_0 : Bool} {z_1 : List Int} {z_2 : List Int} (H : (∃ c1 : List Int, (ref02_Gcd_R a0_1 a1 c1 ∧ (∃ c3t0 : List Int, (∃ c3t1 : List Int, (ref02_Div_R a0_1 c1 c3t0 c3t1 ∧ (∃ c5t0 : List Int, (∃ c5t1 : List Int, (ref02_Div_R a1 c1 c5t0 c5t1 ∧ ((a0_0 = true ∧ (z_0 = (decide (0 < (c3t0.length : Int))) ∧ z_1 = c3t0 ∧ z_2 = c5t0)) ∨ (¬ a0_0 = true ∧ (z_0 = false ∧ z_1 = c3t0 ∧ z_2 = c5t0)))))))))))) : ref08_Low_R a0_0 a0_1 a1 z_0 z_1 z_2 := by
  refine W.ic (zs := [(.agg [.bool a0_0, .ints .i64 a0_1]), .ints .i64 a1]) Tryz.func25 (by kernel_rfl) (by kernel_rfl) (by kernel_rfl) (by kernel_rfl) ?_
  refine W.adv 11 ?_
  obtain ⟨c1, hc2, H⟩ := H
  refine W.callR (g := 56) (ds := [.ints .i64 a0_1, .ints .i64 a1]) (es := [.ints .i64 a0_1, .ints .i64 a1]) (r := (.ints .i64 c1)) (by kernel_rfl) (by kernel_rfl) (Ic.args hc2 (by kernel_rfl)) (by kernel_rfl) ?_
  refine W.adv 8 ?_
  obtain ⟨c3t0, c3t1, hc4, H⟩ := H
  refine W.callR (g := 57) (ds := [.ints .i64 a0_1, .ints .i64 c1]) (es := [.ints .i64 a0_1, .ints .i64 c1]) (r := (.tuple [.ints .i64 c3t0, .ints .i64 c3t1])) (by kernel_rfl) (by kernel_rfl) (Ic.args hc4 (by kernel_rfl)) (by kernel_rfl) ?_
  refine W.adv 11 ?_
  obtain ⟨c5t0, c5t1, hc6, H⟩ := H
  refine W.callR (g := 57) (ds := [.ints .i64 a1, .ints .i64 c1]) (es := [.ints .i64 a1, .ints .i64 c1]) (r := (.tuple [.ints .i64 c5t0, .ints .i64 c5t1])) (by kernel_rfl) (by kernel_rfl) (Ic.args hc6 (by kernel_rfl)) (by kernel_rfl) ?_
  refine W.adv 12 ?_
  rcases H with ⟨h7, H⟩ | ⟨h7, H⟩
  · refine W.guard true (w := (a0_0 == true)) (by kernel_rfl) (congrArg (fun b => b == true) h7) ?_
    refine W.adv 1 ?_
    refine W.guard true (w := (a0_0 == true)) (by kernel_rfl) (congrArg (fun b => b == true) h7) ?_
    refine W.adv 1 ?_
    refine W.guard true (w := (a0_0 == true)) (by kernel_rfl) (congrArg (fun b => b == true) h7) ?_
    refine W.adv 1 ?_
    refine W.opS (OpIs.pk true (t := a0_0) (x := (.bool (decide (0 < (c3t0.length : Int))))) (y := (.bool false)) (by kernel_rfl) h7) ?_
    refine W.adv 8 ?_
    exact W.fin (x := .ret) (by kernel_rfl) (Ans.of (d := (.agg [(.bool (decide (0 < (c3t0.length : Int)))), .ints .i64 c3t0, .ints .i64 c5t0])) (d' := (.agg [(.bool (decide (0 < (c3t0.length : Int)))), .ints .i64 c3t0, .ints .i64 c5t0])) (e' := (.agg [(.bool (decide (0 < (c3t0.length : Int)))), .ints .i64 c3t0, .ints .i64 c5t0])) (by kernel_rfl) (by kernel_rfl) (by kernel_rfl) (by rw [H.1, H.2.1, H.2.2]))
  · refine W.guard false (w := (a0_0 == true)) (by kernel_rfl) (congrArg (fun b => b == true) (bfalse h7)) ?_
    refine W.guard false (w := (a0_0 == true)) (by kernel_rfl) (congrArg (fun b => b == true) (bfalse h7)) ?_
    refine W.guard false (w := (a0_0 == true)) (by kernel_rfl) (congrArg (fun b => b == true) (bfalse h7)) ?_
    refine W.opS (OpIs.pk false (t := a0_0) (x := (.tuple [])) (y := (.bool false)) (by kernel_rfl) (bfalse h7)) ?_
    refine W.adv 8 ?_
    exact W.fin (x := .ret) (by kernel_rfl) (Ans.of (d := (.agg [.bool false, .ints .i64 c3t0, .ints .i64 c5t0])) (d' := (.agg [.bool false, .ints .i64 c3t0, .ints .i64 c5t0])) (e' := (.agg [.bool false, .ints .i64 c3t0, .ints .i64 c5t0])) (by kernel_rfl) (by kernel_rfl) (by kernel_rfl) (by rw [H.1, H.2.1, H.2.2]))
/-! ### trivium/triviumref08.Sign -/
theorem ref08_Sign_go {a0_0 : Bool} {a0_1 : List Int} {a0_2 : List Int} {z : Int} (H : (∃ c1 : Int, (ref07_Sign_R a0_0 a0_1 c1 ∧ (z = c1)))) : ref08_Sign_R a0_0 a0_1 a0_2 z := by
  refine W.ic (zs := [(.agg [.bool a0_0, .ints .i64 a0_1, .ints .i64 a0_2])]) Tryz.func35 (by kernel_rfl) (by kernel_rfl) (by kernel_rfl) (by kernel_rfl) ?_
  refine W.adv 10 ?_
  obtain ⟨c1, hc2, H⟩ := H
  refine W.callR (g := 65) (ds := [(.agg [.bool a0_0, .ints .i64 a0_1])]) (es := [(.agg [.bool a0_0, .ints .i64 a0_1])]) (r := (.int .i64 c1)) (by kernel_rfl) (by kernel_rfl) (Ic.args hc2 (by kernel_rfl)) (by kernel_rfl) ?_
  refine W.adv 4 ?_
  exact W.fin (x := .ret) (by kernel_rfl) (Ans.of (d := (.int .i64 c1)) (d' := (.int .i64 c1)) (e' := (.int .i64 c1)) (by kernel_rfl) (by kernel_rfl) (by kernel_rfl) (by rw [H]))
/-! ### trivium/triviumref08.Sub -/
theorem ref08_Sub_go {a0_0 : Bool} {a0_1 : List Int} {a0_2 : List Int} {a1_0 : Bool} {a1_1 : List Int} {a1_2 : List Int} {z_0 : Bool} {z_1 : List Int} {z_2 : List Int} (H : (∃ c1_0 : Bool, (∃ c1_1 : List Int, (∃ c1_2 : List Int, (ref08_Neg_R a1_0 a1_1 a1_2 c1_0 c1_1 c1_2 ∧ (∃ c3_0 : Bool, (∃ c3_1 : List Int, (∃ c3_2 : List Int, (ref08_Add_R a0_0 a0_1 a0_2 c1_0 c1_1 c1_2 c3_0 c3_1 c3_2 ∧ (z_0 = c3_0 ∧ z_1 = c3_1 ∧ z_2 = c3_2)))))))))) : ref08_Sub_R a0_0 a0_1 a0_2 a1_0 a1_1 a1_2 z_0 z_1 z_2 := by
  refine W.ic (zs := [(.agg [.bool a0_0, .ints .i64 a0_1, .ints .i64 a0_2]), (.agg [.bool a1_0, .ints .i64 a1_1, .ints .i64 a1_2])]) Tryz.func36 (by kernel_rfl) (by kernel_rfl) (by kernel_rfl) (by kernel_rfl) ?_
  refine W.adv 11 ?_
  obtain ⟨c1_0, c1_1, c1_2, hc2, H⟩ := H
  refine W.callR (g := 66) (ds := [(.agg [.bool a1_0, .ints .i64 a1_1, .ints .i64 a1_2])]) (es := [(.agg [.bool a1_0, .ints .i64 a1_1, .ints .i64 a1_2])]) (r := (.agg [.bool c1_0, .ints .i64 c1_1, .ints .i64 c1_2])) (by kernel_rfl) (by kernel_rfl) (Ic.args hc2 (by kernel_rfl)) (by kernel_rfl) ?_
  obtain ⟨c3_0, c3_1, c3_2, hc4, H⟩ := H
  refine W.callR (g := 10) (ds := [(.agg [.bool a0_0, .ints .i64 a0_1, .ints .i64 a0_2]), (.agg [.bool c1_0, .ints .i64 c1_1, .ints .i64 c1_2])]) (es := [(.agg [.bool a0_0, .ints .i64 a0_1, .ints .i64 a0_2]), (.agg [.bool c1_0, .ints .i64 c1_1, .ints .i64 c1_2])]) (r := (.agg [.bool c3_0, .ints .i64 c3_1, .ints .i64 c3_2])) (by kernel_rfl) (by kernel_rfl) (Ic.args hc4 (by kernel_rfl)) (by kernel_rfl) ?_
  refine W.adv 4 ?_
  exact W.fin (x := .ret) (by kernel_rfl) (Ans.of (d := (.agg [.bool c3_0, .ints .i64 c3_1, .ints .i64 c3_2])) (d' := (.agg [.bool c3_0, .ints .i64 c3_1, .ints .i64 c3_2])) (e' := (.agg [.bool c3_0, .ints .i64 c3_1, .ints .i64 c3_2])) (by kernel_rfl) (by kernel_rfl) (by kernel_rfl) (by rw [H.1, H.2.1, H.2.2]))
/-! ### trivium/triviumref08.Neg -/
theorem ref08_Neg_go {a0_0 : Bool} {a0_1 : List Int} {a0_2 : List Int} {z_0 : Bool} {z_1 : List Int} {z_2 : List Int} (H : (∃ c1_0 : Bool, (∃ c1_1 : List Int, (ref07_Neg_R a0_0 a0_1 c1_0 c1_1 ∧ (z_0 = c1_0 ∧ z_1 = c1_1 ∧ z_2 = a0_2))))) : ref08_Neg_R a0_0 a0_1 a0_2 z_0 z_1 z_2 := by
  refine W.ic (zs := [(.agg [.bool a0_0, .ints .i64 a0_1, .ints .i64 a0_2])]) Tryz.func66 (by kernel_rfl) (by kernel_rfl) (by kernel_rfl) (by kernel_rfl) ?_
  refine W.adv 10 ?_
  obtain ⟨c1_0, c1_1, hc2, H⟩ := H
  refine W.callR (g := 81) (ds := [(.agg [.bool a0_0, .ints .i64 a0_1])]) (es := [(.agg [.bool a0_0, .ints .i64 a0_1])]) (r := (.agg [.bool c1_0, .ints .i64 c1_1])) (by kernel_rfl) (by kernel_rfl) (Ic.args hc2 (by kernel_rfl)) (by kernel_rfl) ?_
  refine W.adv 7 ?_
  exact W.fin (x := .ret) (by kernel_rfl) (Ans.of (d := (.agg [.bool c1_0, .ints .i64 c1_1, .ints .i64 a0_2])) (d' := (.agg [.bool c1_0, .ints .i64 c1_1, .ints .i64 a0_2])) (e' := (.agg [.bool c1_0, .ints .i64 c1_1, .ints .i64 a0_2])) (by kernel_rfl) (by kernel_rfl) (by kernel_rfl) (by rw [H.1, H.2.1, H.2.2]))
end Go.Proofs.YtmdgdgfhgaeddaaGreatA
