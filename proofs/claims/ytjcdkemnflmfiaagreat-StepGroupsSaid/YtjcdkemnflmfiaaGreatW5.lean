/- Walks through the functions: what makes each relation true. -/
import Derived.Test.YtjcdkemnflmfiaaGreatW0
set_option linter.unusedVariables false
set_option maxRecDepth 100000
namespace Go.Proofs.YtjcdkemnflmfiaaGreatA
open Go Go.Proofs
theorem ref07_Same_go {a0_0 : Bool} {a0_1 : List Int} {a1_0 : Bool} {a1_1 : List Int} {z : Bool} (H : ((a0_0 = true ∧ ((a1_0 = true ∧ (∃ c3 : Bool, (ref02_Same_R a0_1 a1_1 c3 ∧ (z = c3)))) ∨ (¬ a1_0 = true ∧ (z = false)))) ∨ (¬ a0_0 = true ∧ ((a1_0 = true ∧ (z = false)) ∨ (¬ a1_0 = true ∧ (∃ c6 : Bool, (ref02_Same_R a0_1 a1_1 c6 ∧ (z = c6)))))))) : ref07_Same_R a0_0 a0_1 a1_0 a1_1 z := by
 refine W.ic (zs := [(.agg [.bool a0_0, .ints .u64 a0_1]), (.agg [.bool a1_0, .ints .u64 a1_1])]) Tryz.func54 (by kernel_rfl) (by kernel_rfl) (by kernel_rfl) (by kernel_rfl) ?_
 refine W.adv 15 ?_
 rcases H with ⟨h1, H⟩ | ⟨h1, H⟩
 ·rcases H with ⟨h2, H⟩ | ⟨h2, H⟩
  ·refine W.guard true (w := ((a0_0 == a1_0) == true)) (by kernel_rfl) (congrArg (fun b => b == true) (congr (congrArg (fun x y => x == y) h1) h2)) ?_
   refine W.adv 1 ?_
   refine W.guard true (w := ((a0_0 == a1_0) == true)) (by kernel_rfl) (congrArg (fun b => b == true) (congr (congrArg (fun x y => x == y) h1) h2)) ?_
   refine W.adv 1 ?_
   refine W.guard true (w := ((a0_0 == a1_0) == true)) (by kernel_rfl) (congrArg (fun b => b == true) (congr (congrArg (fun x y => x == y) h1) h2)) ?_
   refine W.adv 1 ?_
   refine W.guard true (w := ((a0_0 == a1_0) == true)) (by kernel_rfl) (congrArg (fun b => b == true) (congr (congrArg (fun x y => x == y) h1) h2)) ?_
   refine W.adv 1 ?_
   refine W.guard true (w := ((a0_0 == a1_0) == true)) (by kernel_rfl) (congrArg (fun b => b == true) (congr (congrArg (fun x y => x == y) h1) h2)) ?_
   obtain ⟨c3, hc4, H⟩ := H
   refine W.callR (g := 55) (ds := [.ints .u64 a0_1, .ints .u64 a1_1]) (es := [.ints .u64 a0_1, .ints .u64 a1_1]) (r := (.bool c3)) (by kernel_rfl) (by kernel_rfl) (Ic.args hc4 (by kernel_rfl)) (by kernel_rfl) ?_
   refine W.opS (OpIs.pk true (t := (a0_0 == a1_0)) (x := (.bool c3)) (y := (.bool false)) (by kernel_rfl) (congr (congrArg (fun x y => x == y) h1) h2)) ?_
   refine W.adv 4 ?_
   exact W.fin (x := .ret) (by kernel_rfl) (Ans.of (d := (.bool c3)) (d' := (.bool c3)) (e' := (.bool c3)) (by kernel_rfl) (by kernel_rfl) (by kernel_rfl) (by rw [H]))
  ·refine W.guard false (w := ((a0_0 == a1_0) == true)) (by kernel_rfl) (congrArg (fun b => b == true) (congr (congrArg (fun x y => x == y) h1) (bfalse h2))) ?_
   refine W.guard false (w := ((a0_0 == a1_0) == true)) (by kernel_rfl) (congrArg (fun b => b == true) (congr (congrArg (fun x y => x == y) h1) (bfalse h2))) ?_
   refine W.guard false (w := ((a0_0 == a1_0) == true)) (by kernel_rfl) (congrArg (fun b => b == true) (congr (congrArg (fun x y => x == y) h1) (bfalse h2))) ?_
   refine W.guard false (w := ((a0_0 == a1_0) == true)) (by kernel_rfl) (congrArg (fun b => b == true) (congr (congrArg (fun x y => x == y) h1) (bfalse h2))) ?_
   refine W.guard false (w := ((a0_0 == a1_0) == true)) (by kernel_rfl) (congrArg (fun b => b == true) (congr (congrArg (fun x y => x == y) h1) (bfalse h2))) ?_
   refine W.opS (OpIs.pk false (t := (a0_0 == a1_0)) (x := (.tuple [])) (y := (.bool false)) (by kernel_rfl) (congr (congrArg (fun x y => x == y) h1) (bfalse h2))) ?_
   refine W.adv 4 ?_
   exact W.fin (x := .ret) (by kernel_rfl) (Ans.of (d := (.bool false)) (d' := (.bool false)) (e' := (.bool false)) (by kernel_rfl) (by kernel_rfl) (by kernel_rfl) (by rw [H]))
 ·rcases H with ⟨h5, H⟩ | ⟨h5, H⟩
  ·refine W.guard false (w := ((a0_0 == a1_0) == true)) (by kernel_rfl) (congrArg (fun b => b == true) (congr (congrArg (fun x y => x == y) (bfalse h1)) h5)) ?_
   refine W.guard false (w := ((a0_0 == a1_0) == true)) (by kernel_rfl) (congrArg (fun b => b == true) (congr (congrArg (fun x y => x == y) (bfalse h1)) h5)) ?_
   refine W.guard false (w := ((a0_0 == a1_0) == true)) (by kernel_rfl) (congrArg (fun b => b == true) (congr (congrArg (fun x y => x == y) (bfalse h1)) h5)) ?_
   refine W.guard false (w := ((a0_0 == a1_0) == true)) (by kernel_rfl) (congrArg (fun b => b == true) (congr (congrArg (fun x y => x == y) (bfalse h1)) h5)) ?_
   refine W.guard false (w := ((a0_0 == a1_0) == true)) (by kernel_rfl) (congrArg (fun b => b == true) (congr (congrArg (fun x y => x == y) (bfalse h1)) h5)) ?_
   refine W.opS (OpIs.pk false (t := (a0_0 == a1_0)) (x := (.tuple [])) (y := (.bool false)) (by kernel_rfl) (congr (congrArg (fun x y => x == y) (bfalse h1)) h5)) ?_
   refine W.adv 4 ?_
   exact W.fin (x := .ret) (by kernel_rfl) (Ans.of (d := (.bool false)) (d' := (.bool false)) (e' := (.bool false)) (by kernel_rfl) (by kernel_rfl) (by kernel_rfl) (by rw [H]))
  ·refine W.guard true (w := ((a0_0 == a1_0) == true)) (by kernel_rfl) (congrArg (fun b => b == true) (congr (congrArg (fun x y => x == y) (bfalse h1)) (bfalse h5))) ?_
   refine W.adv 1 ?_
   refine W.guard true (w := ((a0_0 == a1_0) == true)) (by kernel_rfl) (congrArg (fun b => b == true) (congr (congrArg (fun x y => x == y) (bfalse h1)) (bfalse h5))) ?_
   refine W.adv 1 ?_
   refine W.guard true (w := ((a0_0 == a1_0) == true)) (by kernel_rfl) (congrArg (fun b => b == true) (congr (congrArg (fun x y => x == y) (bfalse h1)) (bfalse h5))) ?_
   refine W.adv 1 ?_
   refine W.guard true (w := ((a0_0 == a1_0) == true)) (by kernel_rfl) (congrArg (fun b => b == true) (congr (congrArg (fun x y => x == y) (bfalse h1)) (bfalse h5))) ?_
   refine W.adv 1 ?_
   refine W.guard true (w := ((a0_0 == a1_0) == true)) (by kernel_rfl) (congrArg (fun b => b == true) (congr (congrArg (fun x y => x == y) (bfalse h1)) (bfalse h5))) ?_
   obtain ⟨c6, hc7, H⟩ := H
   refine W.callR (g := 55) (ds := [.ints .u64 a0_1, .ints .u64 a1_1]) (es := [.ints .u64 a0_1, .ints .u64 a1_1]) (r := (.bool c6)) (by kernel_rfl) (by kernel_rfl) (Ic.args hc7 (by kernel_rfl)) (by kernel_rfl) ?_
   refine W.opS (OpIs.pk true (t := (a0_0 == a1_0)) (x := (.bool c6)) (y := (.bool false)) (by kernel_rfl) (congr (congrArg (fun x y => x == y) (bfalse h1)) (bfalse h5))) ?_
   refine W.adv 4 ?_
   exact W.fin (x := .ret) (by kernel_rfl) (Ans.of (d := (.bool c6)) (d' := (.bool c6)) (e' := (.bool c6)) (by kernel_rfl) (by kernel_rfl) (by kernel_rfl) (by rw [H]))
theorem ref07_Back_go {a0_0 : Bool} {a0_1 : List Int} {z_0 : Bool} {z_1 : List Int} (H : (∃ c1 : List Int, (ref02_Back_R a0_1 c1 ∧ (z_0 = a0_0 ∧ z_1 = c1)))) : ref07_Back_R a0_0 a0_1 z_0 z_1 := by
 refine W.ic (zs := [(.agg [.bool a0_0, .ints .i64 a0_1])]) Tryz.func56 (by kernel_rfl) (by kernel_rfl) (by kernel_rfl) (by kernel_rfl) ?_
 refine W.adv 12 ?_
 obtain ⟨c1, hc2, H⟩ := H
 refine W.callR (g := 57) (ds := [.ints .i64 a0_1]) (es := [.ints .i64 a0_1]) (r := (.ints .u64 c1)) (by kernel_rfl) (by kernel_rfl) (Ic.args hc2 (by kernel_rfl)) (by kernel_rfl) ?_
 refine W.adv 5 ?_
 exact W.fin (x := .ret) (by kernel_rfl) (Ans.of (d := (.agg [.bool a0_0, .ints .u64 c1])) (d' := (.agg [.bool a0_0, .ints .u64 c1])) (e' := (.agg [.bool a0_0, .ints .u64 c1])) (by kernel_rfl) (by kernel_rfl) (by kernel_rfl) (by rw [H.1, H.2]))
theorem ref07_Num_go {a0 : Int} {z_0 : Bool} {z_1 : List Int} (H : ((a0 < 0 ∧ (∃ c2 : List Int, (ref02_Num_R (wi (0 - a0)) c2 ∧ (∃ c4_0 : Bool, (∃ c4_1 : List Int, (ref07_made_R true c2 c4_0 c4_1 ∧ (z_0 = c4_0 ∧ z_1 = c4_1))))))) ∨ (¬ a0 < 0 ∧ (∃ c6 : List Int, (ref02_Num_R a0 c6 ∧ (∃ c8_0 : Bool, (∃ c8_1 : List Int, (ref07_made_R false c6 c8_0 c8_1 ∧ (z_0 = c8_0 ∧ z_1 = c8_1))))))))) : ref07_Num_R a0 z_0 z_1 := by
 refine W.ic (zs := [.int .i64 a0]) Tryz.func65 (by kernel_rfl) (by kernel_rfl) (by kernel_rfl) (by kernel_rfl) ?_
 refine W.adv 12 ?_
 rcases H with ⟨h1, H⟩ | ⟨h1, H⟩
 ·refine W.cond true (w := (decide (a0 < 0))) (by kernel_rfl) (decide_eq_true h1) ?_
  refine W.adv 4 ?_
  obtain ⟨c2, hc3, H⟩ := H
  refine W.callR (g := 66) (ds := [(.int .i64 (wi (0 - a0)))]) (es := [(.int .i64 (wi (0 - a0)))]) (r := (.ints .i64 c2)) (by kernel_rfl) (by kernel_rfl) (Ic.args hc3 (by kernel_rfl)) (by kernel_rfl) ?_
  obtain ⟨c4_0, c4_1, hc5, H⟩ := H
  refine W.callR (g := 125) (ds := [.bool true, .ints .i64 c2]) (es := [.bool true, .ints .i64 c2]) (r := (.agg [.bool c4_0, .ints .i64 c4_1])) (by kernel_rfl) (by kernel_rfl) (Ic.args hc5 (by kernel_rfl)) (by kernel_rfl) ?_
  refine W.adv 5 ?_
  exact W.fin (x := .ret) (by kernel_rfl) (Ans.of (d := (.agg [.bool c4_0, .ints .i64 c4_1])) (d' := (.agg [.bool c4_0, .ints .i64 c4_1])) (e' := (.agg [.bool c4_0, .ints .i64 c4_1])) (by kernel_rfl) (by kernel_rfl) (by kernel_rfl) (by rw [H.1, H.2]))
 ·refine W.cond false (w := (decide (a0 < 0))) (by kernel_rfl) (decide_eq_false h1) ?_
  refine W.adv 5 ?_
  obtain ⟨c6, hc7, H⟩ := H
  refine W.callR (g := 66) (ds := [.int .i64 a0]) (es := [.int .i64 a0]) (r := (.ints .i64 c6)) (by kernel_rfl) (by kernel_rfl) (Ic.args hc7 (by kernel_rfl)) (by kernel_rfl) ?_
  obtain ⟨c8_0, c8_1, hc9, H⟩ := H
  refine W.callR (g := 125) (ds := [.bool false, .ints .i64 c6]) (es := [.bool false, .ints .i64 c6]) (r := (.agg [.bool c8_0, .ints .i64 c8_1])) (by kernel_rfl) (by kernel_rfl) (Ic.args hc9 (by kernel_rfl)) (by kernel_rfl) ?_
  refine W.adv 4 ?_
  exact W.fin (x := .ret) (by kernel_rfl) (Ans.of (d := (.agg [.bool c8_0, .ints .i64 c8_1])) (d' := (.agg [.bool c8_0, .ints .i64 c8_1])) (e' := (.agg [.bool c8_0, .ints .i64 c8_1])) (by kernel_rfl) (by kernel_rfl) (by kernel_rfl) (by rw [H.1, H.2]))
theorem ref07_Mul_go {a0_0 : Bool} {a0_1 : List Int} {a1_0 : Bool} {a1_1 : List Int} {z_0 : Bool} {z_1 : List Int} (H : (∃ c1 : List Int, (ref02_Mul_R a0_1 a1_1 c1 ∧ (∃ c3_0 : Bool, (∃ c3_1 : List Int, (ref07_made_R (!(a0_0 == a1_0)) c1 c3_0 c3_1 ∧ (z_0 = c3_0 ∧ z_1 = c3_1))))))) : ref07_Mul_R a0_0 a0_1 a1_0 a1_1 z_0 z_1 := by
 refine W.ic (zs := [(.agg [.bool a0_0, .ints .i64 a0_1]), (.agg [.bool a1_0, .ints .i64 a1_1])]) Tryz.func67 (by kernel_rfl) (by kernel_rfl) (by kernel_rfl) (by kernel_rfl) ?_
 refine W.adv 18 ?_
 obtain ⟨c1, hc2, H⟩ := H
 refine W.callR (g := 69) (ds := [.ints .i64 a0_1, .ints .i64 a1_1]) (es := [.ints .i64 a0_1, .ints .i64 a1_1]) (r := (.ints .i64 c1)) (by kernel_rfl) (by kernel_rfl) (Ic.args hc2 (by kernel_rfl)) (by kernel_rfl) ?_
 obtain ⟨c3_0, c3_1, hc4, H⟩ := H
 refine W.callR (g := 125) (ds := [(.bool (!(a0_0 == a1_0))), .ints .i64 c1]) (es := [(.bool (!(a0_0 == a1_0))), .ints .i64 c1]) (r := (.agg [.bool c3_0, .ints .i64 c3_1])) (by kernel_rfl) (by kernel_rfl) (Ic.args hc4 (by kernel_rfl)) (by kernel_rfl) ?_
 refine W.adv 4 ?_
 exact W.fin (x := .ret) (by kernel_rfl) (Ans.of (d := (.agg [.bool c3_0, .ints .i64 c3_1])) (d' := (.agg [.bool c3_0, .ints .i64 c3_1])) (e' := (.agg [.bool c3_0, .ints .i64 c3_1])) (by kernel_rfl) (by kernel_rfl) (by kernel_rfl) (by rw [H.1, H.2]))
theorem ref07_Add_go {a0_0 : Bool} {a0_1 : List Int} {a1_0 : Bool} {a1_1 : List Int} {z_0 : Bool} {z_1 : List Int} (H : ((a0_0 = true ∧ ((a1_0 = true ∧ (∃ c3 : List Int, (ref02_Add_R a0_1 a1_1 c3 ∧ (∃ c5_0 : Bool, (∃ c5_1 : List Int, (ref07_made_R a0_0 c3 c5_0 c5_1 ∧ (z_0 = c5_0 ∧ z_1 = c5_1))))))) ∨ (¬ a1_0 = true ∧ (∃ c7 : Int, (ref02_Cmp_R a0_1 a1_1 c7 ∧ ((0 ≤ c7 ∧ (∃ c10 : List Int, (ref02_Sub_R a0_1 a1_1 c10 ∧ (∃ c12_0 : Bool, (∃ c12_1 : List Int, (ref07_made_R a0_0 c10 c12_0 c12_1 ∧ (z_0 = c12_0 ∧ z_1 = c12_1))))))) ∨ (¬ 0 ≤ c7 ∧ (∃ c14 : List Int, (ref02_Sub_R a1_1 a0_1 c14 ∧ (∃ c16_0 : Bool, (∃ c16_1 : List Int, (ref07_made_R a1_0 c14 c16_0 c16_1 ∧ (z_0 = c16_0 ∧ z_1 = c16_1))))))))))))) ∨ (¬ a0_0 = true ∧ ((a1_0 = true ∧ (∃ c19 : Int, (ref02_Cmp_R a0_1 a1_1 c19 ∧ ((0 ≤ c19 ∧ (∃ c22 : List Int, (ref02_Sub_R a0_1 a1_1 c22 ∧ (∃ c24_0 : Bool, (∃ c24_1 : List Int, (ref07_made_R a0_0 c22 c24_0 c24_1 ∧ (z_0 = c24_0 ∧ z_1 = c24_1))))))) ∨ (¬ 0 ≤ c19 ∧ (∃ c26 : List Int, (ref02_Sub_R a1_1 a0_1 c26 ∧ (∃ c28_0 : Bool, (∃ c28_1 : List Int, (ref07_made_R a1_0 c26 c28_0 c28_1 ∧ (z_0 = c28_0 ∧ z_1 = c28_1))))))))))) ∨ (¬ a1_0 = true ∧ (∃ c30 : List Int, (ref02_Add_R a0_1 a1_1 c30 ∧ (∃ c32_0 : Bool, (∃ c32_1 : List Int, (ref07_made_R a0_0 c30 c32_0 c32_1 ∧ (z_0 = c32_0 ∧ z_1 = c32_1))))))))))) : ref07_Add_R a0_0 a0_1 a1_0 a1_1 z_0 z_1 := by
 refine W.ic (zs := [(.agg [.bool a0_0, .ints .i64 a0_1]), (.agg [.bool a1_0, .ints .i64 a1_1])]) Tryz.func68 (by kernel_rfl) (by kernel_rfl) (by kernel_rfl) (by kernel_rfl) ?_
 refine W.adv 17 ?_
 rcases H with ⟨h1, H⟩ | ⟨h1, H⟩
 ·rcases H with ⟨h2, H⟩ | ⟨h2, H⟩
  ·refine W.cond true (w := (a0_0 == a1_0)) (by kernel_rfl) (congr (congrArg (fun x y => x == y) h1) h2) ?_
   refine W.adv 8 ?_
   obtain ⟨c3, hc4, H⟩ := H
   refine W.callR (g := 127) (ds := [.ints .i64 a0_1, .ints .i64 a1_1]) (es := [.ints .i64 a0_1, .ints .i64 a1_1]) (r := (.ints .i64 c3)) (by kernel_rfl) (by kernel_rfl) (Ic.args hc4 (by kernel_rfl)) (by kernel_rfl) ?_
   obtain ⟨c5_0, c5_1, hc6, H⟩ := H
   refine W.callR (g := 125) (ds := [.bool a0_0, .ints .i64 c3]) (es := [.bool a0_0, .ints .i64 c3]) (r := (.agg [.bool c5_0, .ints .i64 c5_1])) (by kernel_rfl) (by kernel_rfl) (Ic.args hc6 (by kernel_rfl)) (by kernel_rfl) ?_
   refine W.adv 5 ?_
   exact W.fin (x := .ret) (by kernel_rfl) (Ans.of (d := (.agg [.bool c5_0, .ints .i64 c5_1])) (d' := (.agg [.bool c5_0, .ints .i64 c5_1])) (e' := (.agg [.bool c5_0, .ints .i64 c5_1])) (by kernel_rfl) (by kernel_rfl) (by kernel_rfl) (by rw [H.1, H.2]))
  ·refine W.cond false (w := (a0_0 == a1_0)) (by kernel_rfl) (congr (congrArg (fun x y => x == y) h1) (bfalse h2)) ?_
   refine W.adv 9 ?_
   obtain ⟨c7, hc8, H⟩ := H
   refine W.callR (g := 128) (ds := [.ints .i64 a0_1, .ints .i64 a1_1]) (es := [.ints .i64 a0_1, .ints .i64 a1_1]) (r := (.int .i64 c7)) (by kernel_rfl) (by kernel_rfl) (Ic.args hc8 (by kernel_rfl)) (by kernel_rfl) ?_
   refine W.adv 3 ?_
   rcases H with ⟨h9, H⟩ | ⟨h9, H⟩
   ·refine W.cond true (w := (decide (0 ≤ c7))) (by kernel_rfl) (decide_eq_true h9) ?_
    refine W.adv 8 ?_
    obtain ⟨c10, hc11, H⟩ := H
    refine W.callR (g := 129) (ds := [.ints .i64 a0_1, .ints .i64 a1_1]) (es := [.ints .i64 a0_1, .ints .i64 a1_1]) (r := (.ints .i64 c10)) (by kernel_rfl) (by kernel_rfl) (Ic.args hc11 (by kernel_rfl)) (by kernel_rfl) ?_
    obtain ⟨c12_0, c12_1, hc13, H⟩ := H
    refine W.callR (g := 125) (ds := [.bool a0_0, .ints .i64 c10]) (es := [.bool a0_0, .ints .i64 c10]) (r := (.agg [.bool c12_0, .ints .i64 c12_1])) (by kernel_rfl) (by kernel_rfl) (Ic.args hc13 (by kernel_rfl)) (by kernel_rfl) ?_
    refine W.adv 5 ?_
    exact W.fin (x := .ret) (by kernel_rfl) (Ans.of (d := (.agg [.bool c12_0, .ints .i64 c12_1])) (d' := (.agg [.bool c12_0, .ints .i64 c12_1])) (e' := (.agg [.bool c12_0, .ints .i64 c12_1])) (by kernel_rfl) (by kernel_rfl) (by kernel_rfl) (by rw [H.1, H.2]))
   ·refine W.cond false (w := (decide (0 ≤ c7))) (by kernel_rfl) (decide_eq_false h9) ?_
    refine W.adv 10 ?_
    obtain ⟨c14, hc15, H⟩ := H
    refine W.callR (g := 129) (ds := [.ints .i64 a1_1, .ints .i64 a0_1]) (es := [.ints .i64 a1_1, .ints .i64 a0_1]) (r := (.ints .i64 c14)) (by kernel_rfl) (by kernel_rfl) (Ic.args hc15 (by kernel_rfl)) (by kernel_rfl) ?_
    obtain ⟨c16_0, c16_1, hc17, H⟩ := H
    refine W.callR (g := 125) (ds := [.bool a1_0, .ints .i64 c14]) (es := [.bool a1_0, .ints .i64 c14]) (r := (.agg [.bool c16_0, .ints .i64 c16_1])) (by kernel_rfl) (by kernel_rfl) (Ic.args hc17 (by kernel_rfl)) (by kernel_rfl) ?_
    refine W.adv 4 ?_
    exact W.fin (x := .ret) (by kernel_rfl) (Ans.of (d := (.agg [.bool c16_0, .ints .i64 c16_1])) (d' := (.agg [.bool c16_0, .ints .i64 c16_1])) (e' := (.agg [.bool c16_0, .ints .i64 c16_1])) (by kernel_rfl) (by kernel_rfl) (by kernel_rfl) (by rw [H.1, H.2]))
 ·rcases H with ⟨h18, H⟩ | ⟨h18, H⟩
  ·refine W.cond false (w := (a0_0 == a1_0)) (by kernel_rfl) (congr (congrArg (fun x y => x == y) (bfalse h1)) h18) ?_
   refine W.adv 9 ?_
   obtain ⟨c19, hc20, H⟩ := H
   refine W.callR (g := 128) (ds := [.ints .i64 a0_1, .ints .i64 a1_1]) (es := [.ints .i64 a0_1, .ints .i64 a1_1]) (r := (.int .i64 c19)) (by kernel_rfl) (by kernel_rfl) (Ic.args hc20 (by kernel_rfl)) (by kernel_rfl) ?_
   refine W.adv 3 ?_
   rcases H with ⟨h21, H⟩ | ⟨h21, H⟩
   ·refine W.cond true (w := (decide (0 ≤ c19))) (by kernel_rfl) (decide_eq_true h21) ?_
    refine W.adv 8 ?_
    obtain ⟨c22, hc23, H⟩ := H
    refine W.callR (g := 129) (ds := [.ints .i64 a0_1, .ints .i64 a1_1]) (es := [.ints .i64 a0_1, .ints .i64 a1_1]) (r := (.ints .i64 c22)) (by kernel_rfl) (by kernel_rfl) (Ic.args hc23 (by kernel_rfl)) (by kernel_rfl) ?_
    obtain ⟨c24_0, c24_1, hc25, H⟩ := H
    refine W.callR (g := 125) (ds := [.bool a0_0, .ints .i64 c22]) (es := [.bool a0_0, .ints .i64 c22]) (r := (.agg [.bool c24_0, .ints .i64 c24_1])) (by kernel_rfl) (by kernel_rfl) (Ic.args hc25 (by kernel_rfl)) (by kernel_rfl) ?_
    refine W.adv 5 ?_
    exact W.fin (x := .ret) (by kernel_rfl) (Ans.of (d := (.agg [.bool c24_0, .ints .i64 c24_1])) (d' := (.agg [.bool c24_0, .ints .i64 c24_1])) (e' := (.agg [.bool c24_0, .ints .i64 c24_1])) (by kernel_rfl) (by kernel_rfl) (by kernel_rfl) (by rw [H.1, H.2]))
   ·refine W.cond false (w := (decide (0 ≤ c19))) (by kernel_rfl) (decide_eq_false h21) ?_
    refine W.adv 10 ?_
    obtain ⟨c26, hc27, H⟩ := H
    refine W.callR (g := 129) (ds := [.ints .i64 a1_1, .ints .i64 a0_1]) (es := [.ints .i64 a1_1, .ints .i64 a0_1]) (r := (.ints .i64 c26)) (by kernel_rfl) (by kernel_rfl) (Ic.args hc27 (by kernel_rfl)) (by kernel_rfl) ?_
    obtain ⟨c28_0, c28_1, hc29, H⟩ := H
    refine W.callR (g := 125) (ds := [.bool a1_0, .ints .i64 c26]) (es := [.bool a1_0, .ints .i64 c26]) (r := (.agg [.bool c28_0, .ints .i64 c28_1])) (by kernel_rfl) (by kernel_rfl) (Ic.args hc29 (by kernel_rfl)) (by kernel_rfl) ?_
    refine W.adv 4 ?_
    exact W.fin (x := .ret) (by kernel_rfl) (Ans.of (d := (.agg [.bool c28_0, .ints .i64 c28_1])) (d' := (.agg [.bool c28_0, .ints .i64 c28_1])) (e' := (.agg [.bool c28_0, .ints .i64 c28_1])) (by kernel_rfl) (by kernel_rfl) (by kernel_rfl) (by rw [H.1, H.2]))
  ·refine W.cond true (w := (a0_0 == a1_0)) (by kernel_rfl) (congr (congrArg (fun x y => x == y) (bfalse h1)) (bfalse h18)) ?_
   refine W.adv 8 ?_
   obtain ⟨c30, hc31, H⟩ := H
   refine W.callR (g := 127) (ds := [.ints .i64 a0_1, .ints .i64 a1_1]) (es := [.ints .i64 a0_1, .ints .i64 a1_1]) (r := (.ints .i64 c30)) (by kernel_rfl) (by kernel_rfl) (Ic.args hc31 (by kernel_rfl)) (by kernel_rfl) ?_
   obtain ⟨c32_0, c32_1, hc33, H⟩ := H
   refine W.callR (g := 125) (ds := [.bool a0_0, .ints .i64 c30]) (es := [.bool a0_0, .ints .i64 c30]) (r := (.agg [.bool c32_0, .ints .i64 c32_1])) (by kernel_rfl) (by kernel_rfl) (Ic.args hc33 (by kernel_rfl)) (by kernel_rfl) ?_
   refine W.adv 5 ?_
   exact W.fin (x := .ret) (by kernel_rfl) (Ans.of (d := (.agg [.bool c32_0, .ints .i64 c32_1])) (d' := (.agg [.bool c32_0, .ints .i64 c32_1])) (e' := (.agg [.bool c32_0, .ints .i64 c32_1])) (by kernel_rfl) (by kernel_rfl) (by kernel_rfl) (by rw [H.1, H.2]))
theorem whole_Sign_go {a0_0 : Bool} {a0_1 : List Int} {z : Int} (H : (((a0_1.length : Int) = 0 ∧ (z = 0)) ∨ (¬ (a0_1.length : Int) = 0 ∧ ((a0_0 = true ∧ (z = (-1))) ∨ (¬ a0_0 = true ∧ (z = 1)))))) : whole_Sign_R a0_0 a0_1 z := by
 refine W.ic (zs := [(.agg [.bool a0_0, .ints .u64 a0_1])]) Tryz.func71 (by kernel_rfl) (by kernel_rfl) (by kernel_rfl) (by kernel_rfl) ?_
 refine W.adv 17 ?_
 rcases H with ⟨h1, H⟩ | ⟨h1, H⟩
 ·refine W.cond true (w := (decide ((a0_1.length : Int) = 0))) (by kernel_rfl) (decide_eq_true h1) ?_
  refine W.adv 8 ?_
  exact W.fin (x := .ret) (by kernel_rfl) (Ans.of (d := (.int .i64 0)) (d' := (.int .i64 0)) (e' := (.int .i64 0)) (by kernel_rfl) (by kernel_rfl) (by kernel_rfl) (by rw [H]))
 ·refine W.cond false (w := (decide ((a0_1.length : Int) = 0))) (by kernel_rfl) (decide_eq_false h1) ?_
  refine W.adv 7 ?_
  rcases H with ⟨h2, H⟩ | ⟨h2, H⟩
  ·refine W.cond true (w := a0_0) (by kernel_rfl) h2 ?_
   refine W.adv 8 ?_
   exact W.fin (x := .ret) (by kernel_rfl) (Ans.of (d := (.int .i64 (-1))) (d' := (.int .i64 (-1))) (e' := (.int .i64 (-1))) (by kernel_rfl) (by kernel_rfl) (by kernel_rfl) (by rw [H]))
  ·refine W.cond false (w := a0_0) (by kernel_rfl) (bfalse h2) ?_
   refine W.adv 9 ?_
   exact W.fin (x := .ret) (by kernel_rfl) (Ans.of (d := (.int .i64 1)) (d' := (.int .i64 1)) (e' := (.int .i64 1)) (by kernel_rfl) (by kernel_rfl) (by kernel_rfl) (by rw [H]))
theorem whole_Of_go {a0 : Int} {z_0 : Bool} {z_1 : List Int} (H : ((a0 < 0 ∧ (∃ c2 : List Int, (nat_Of_R (wu ((wi (0 - (wi (a0 + 1)))))) c2 ∧ (∃ c4 : List Int, (nat_Of_R 1 c4 ∧ (∃ c6 : List Int, (nat_Add_R c2 c4 c6 ∧ (∃ c8_0 : Bool, (∃ c8_1 : List Int, (whole_Made_R true c6 c8_0 c8_1 ∧ (z_0 = c8_0 ∧ z_1 = c8_1))))))))))) ∨ (¬ a0 < 0 ∧ (∃ c10 : List Int, (nat_Of_R (wu (a0)) c10 ∧ (∃ c12_0 : Bool, (∃ c12_1 : List Int, (whole_Made_R false c10 c12_0 c12_1 ∧ (z_0 = c12_0 ∧ z_1 = c12_1))))))))) : whole_Of_R a0 z_0 z_1 := by
 refine W.ic (zs := [.int .i64 a0]) Tryz.func100 (by kernel_rfl) (by kernel_rfl) (by kernel_rfl) (by kernel_rfl) ?_
 refine W.adv 12 ?_
 rcases H with ⟨h1, H⟩ | ⟨h1, H⟩
 ·refine W.cond true (w := (decide (a0 < 0))) (by kernel_rfl) (decide_eq_true h1) ?_
  refine W.adv 6 ?_
  obtain ⟨c2, hc3, H⟩ := H
  refine W.callR (g := 150) (ds := [(.int .u64 (wu ((wi (0 - (wi (a0 + 1)))))))]) (es := [(.int .u64 (wu ((wi (0 - (wi (a0 + 1)))))))]) (r := (.ints .u64 c2)) (by kernel_rfl) (by kernel_rfl) (Ic.args hc3 (by kernel_rfl)) (by kernel_rfl) ?_
  obtain ⟨c4, hc5, H⟩ := H
  refine W.callR (g := 150) (ds := [.int .u64 1]) (es := [.int .u64 1]) (r := (.ints .u64 c4)) (by kernel_rfl) (by kernel_rfl) (Ic.args hc5 (by kernel_rfl)) (by kernel_rfl) ?_
  obtain ⟨c6, hc7, H⟩ := H
  refine W.callR (g := 149) (ds := [.ints .u64 c2, .ints .u64 c4]) (es := [.ints .u64 c2, .ints .u64 c4]) (r := (.ints .u64 c6)) (by kernel_rfl) (by kernel_rfl) (Ic.args hc7 (by kernel_rfl)) (by kernel_rfl) ?_
  obtain ⟨c8_0, c8_1, hc9, H⟩ := H
  refine W.callR (g := 148) (ds := [.bool true, .ints .u64 c6]) (es := [.bool true, .ints .u64 c6]) (r := (.agg [.bool c8_0, .ints .u64 c8_1])) (by kernel_rfl) (by kernel_rfl) (Ic.args hc9 (by kernel_rfl)) (by kernel_rfl) ?_
  refine W.adv 5 ?_
  exact W.fin (x := .ret) (by kernel_rfl) (Ans.of (d := (.agg [.bool c8_0, .ints .u64 c8_1])) (d' := (.agg [.bool c8_0, .ints .u64 c8_1])) (e' := (.agg [.bool c8_0, .ints .u64 c8_1])) (by kernel_rfl) (by kernel_rfl) (by kernel_rfl) (by rw [H.1, H.2]))
 ·refine W.cond false (w := (decide (a0 < 0))) (by kernel_rfl) (decide_eq_false h1) ?_
  refine W.adv 6 ?_
  obtain ⟨c10, hc11, H⟩ := H
  refine W.callR (g := 150) (ds := [(.int .u64 (wu (a0)))]) (es := [(.int .u64 (wu (a0)))]) (r := (.ints .u64 c10)) (by kernel_rfl) (by kernel_rfl) (Ic.args hc11 (by kernel_rfl)) (by kernel_rfl) ?_
  obtain ⟨c12_0, c12_1, hc13, H⟩ := H
  refine W.callR (g := 148) (ds := [.bool false, .ints .u64 c10]) (es := [.bool false, .ints .u64 c10]) (r := (.agg [.bool c12_0, .ints .u64 c12_1])) (by kernel_rfl) (by kernel_rfl) (Ic.args hc13 (by kernel_rfl)) (by kernel_rfl) ?_
  refine W.adv 4 ?_
  exact W.fin (x := .ret) (by kernel_rfl) (Ans.of (d := (.agg [.bool c12_0, .ints .u64 c12_1])) (d' := (.agg [.bool c12_0, .ints .u64 c12_1])) (e' := (.agg [.bool c12_0, .ints .u64 c12_1])) (by kernel_rfl) (by kernel_rfl) (by kernel_rfl) (by rw [H.1, H.2]))
theorem whole_Add_go {a0_0 : Bool} {a0_1 : List Int} {a1_0 : Bool} {a1_1 : List Int} {z_0 : Bool} {z_1 : List Int} (H : ((a0_0 = true ∧ ((a1_0 = true ∧ (∃ c3 : List Int, (nat_Add_R a0_1 a1_1 c3 ∧ (∃ c5_0 : Bool, (∃ c5_1 : List Int, (whole_Made_R a0_0 c3 c5_0 c5_1 ∧ (z_0 = c5_0 ∧ z_1 = c5_1))))))) ∨ (¬ a1_0 = true ∧ (∃ c7t0 : List Int, (∃ c7t1 : Int, (nat_Sub_R a0_1 a1_1 c7t0 c7t1 ∧ ((c7t1 = 0 ∧ (∃ c10_0 : Bool, (∃ c10_1 : List Int, (whole_Made_R a0_0 c7t0 c10_0 c10_1 ∧ (z_0 = c10_0 ∧ z_1 = c10_1))))) ∨ (¬ c7t1 = 0 ∧ (∃ c12t0 : List Int, (∃ c12t1 : Int, (nat_Sub_R a1_1 a0_1 c12t0 c12t1 ∧ (∃ c14_0 : Bool, (∃ c14_1 : List Int, (whole_Made_R a1_0 c12t0 c14_0 c14_1 ∧ (z_0 = c14_0 ∧ z_1 = c14_1))))))))))))))) ∨ (¬ a0_0 = true ∧ ((a1_0 = true ∧ (∃ c17t0 : List Int, (∃ c17t1 : Int, (nat_Sub_R a0_1 a1_1 c17t0 c17t1 ∧ ((c17t1 = 0 ∧ (∃ c20_0 : Bool, (∃ c20_1 : List Int, (whole_Made_R a0_0 c17t0 c20_0 c20_1 ∧ (z_0 = c20_0 ∧ z_1 = c20_1))))) ∨ (¬ c17t1 = 0 ∧ (∃ c22t0 : List Int, (∃ c22t1 : Int, (nat_Sub_R a1_1 a0_1 c22t0 c22t1 ∧ (∃ c24_0 : Bool, (∃ c24_1 : List Int, (whole_Made_R a1_0 c22t0 c24_0 c24_1 ∧ (z_0 = c24_0 ∧ z_1 = c24_1))))))))))))) ∨ (¬ a1_0 = true ∧ (∃ c26 : List Int, (nat_Add_R a0_1 a1_1 c26 ∧ (∃ c28_0 : Bool, (∃ c28_1 : List Int, (whole_Made_R a0_0 c26 c28_0 c28_1 ∧ (z_0 = c28_0 ∧ z_1 = c28_1))))))))))) : whole_Add_R a0_0 a0_1 a1_0 a1_1 z_0 z_1 := by
 refine W.ic (zs := [(.agg [.bool a0_0, .ints .u64 a0_1]), (.agg [.bool a1_0, .ints .u64 a1_1])]) Tryz.func112 (by kernel_rfl) (by kernel_rfl) (by kernel_rfl) (by kernel_rfl) ?_
 refine W.adv 17 ?_
 rcases H with ⟨h1, H⟩ | ⟨h1, H⟩
 ·rcases H with ⟨h2, H⟩ | ⟨h2, H⟩
  ·refine W.cond true (w := (a0_0 == a1_0)) (by kernel_rfl) (congr (congrArg (fun x y => x == y) h1) h2) ?_
   refine W.adv 8 ?_
   obtain ⟨c3, hc4, H⟩ := H
   refine W.callR (g := 149) (ds := [.ints .u64 a0_1, .ints .u64 a1_1]) (es := [.ints .u64 a0_1, .ints .u64 a1_1]) (r := (.ints .u64 c3)) (by kernel_rfl) (by kernel_rfl) (Ic.args hc4 (by kernel_rfl)) (by kernel_rfl) ?_
   obtain ⟨c5_0, c5_1, hc6, H⟩ := H
   refine W.callR (g := 148) (ds := [.bool a0_0, .ints .u64 c3]) (es := [.bool a0_0, .ints .u64 c3]) (r := (.agg [.bool c5_0, .ints .u64 c5_1])) (by kernel_rfl) (by kernel_rfl) (Ic.args hc6 (by kernel_rfl)) (by kernel_rfl) ?_
   refine W.adv 5 ?_
   exact W.fin (x := .ret) (by kernel_rfl) (Ans.of (d := (.agg [.bool c5_0, .ints .u64 c5_1])) (d' := (.agg [.bool c5_0, .ints .u64 c5_1])) (e' := (.agg [.bool c5_0, .ints .u64 c5_1])) (by kernel_rfl) (by kernel_rfl) (by kernel_rfl) (by rw [H.1, H.2]))
  ·refine W.cond false (w := (a0_0 == a1_0)) (by kernel_rfl) (congr (congrArg (fun x y => x == y) h1) (bfalse h2)) ?_
   refine W.adv 9 ?_
   obtain ⟨c7t0, c7t1, hc8, H⟩ := H
   refine W.callR (g := 158) (ds := [.ints .u64 a0_1, .ints .u64 a1_1]) (es := [.ints .u64 a0_1, .ints .u64 a1_1]) (r := (.tuple [.ints .u64 c7t0, .int .i64 c7t1])) (by kernel_rfl) (by kernel_rfl) (Ic.args hc8 (by kernel_rfl)) (by kernel_rfl) ?_
   refine W.adv 13 ?_
   rcases H with ⟨h9, H⟩ | ⟨h9, H⟩
   ·refine W.cond true (w := (decide (c7t1 = 0))) (by kernel_rfl) (decide_eq_true h9) ?_
    refine W.adv 5 ?_
    obtain ⟨c10_0, c10_1, hc11, H⟩ := H
    refine W.callR (g := 148) (ds := [.bool a0_0, .ints .u64 c7t0]) (es := [.bool a0_0, .ints .u64 c7t0]) (r := (.agg [.bool c10_0, .ints .u64 c10_1])) (by kernel_rfl) (by kernel_rfl) (Ic.args hc11 (by kernel_rfl)) (by kernel_rfl) ?_
    refine W.adv 5 ?_
    exact W.fin (x := .ret) (by kernel_rfl) (Ans.of (d := (.agg [.bool c10_0, .ints .u64 c10_1])) (d' := (.agg [.bool c10_0, .ints .u64 c10_1])) (e' := (.agg [.bool c10_0, .ints .u64 c10_1])) (by kernel_rfl) (by kernel_rfl) (by kernel_rfl) (by rw [H.1, H.2]))
   ·refine W.cond false (w := (decide (c7t1 = 0))) (by kernel_rfl) (decide_eq_false h9) ?_
    refine W.adv 8 ?_
    obtain ⟨c12t0, c12t1, hc13, H⟩ := H
    refine W.callR (g := 158) (ds := [.ints .u64 a1_1, .ints .u64 a0_1]) (es := [.ints .u64 a1_1, .ints .u64 a0_1]) (r := (.tuple [.ints .u64 c12t0, .int .i64 c12t1])) (by kernel_rfl) (by kernel_rfl) (Ic.args hc13 (by kernel_rfl)) (by kernel_rfl) ?_
    refine W.adv 12 ?_
    obtain ⟨c14_0, c14_1, hc15, H⟩ := H
    refine W.callR (g := 148) (ds := [.bool a1_0, .ints .u64 c12t0]) (es := [.bool a1_0, .ints .u64 c12t0]) (r := (.agg [.bool c14_0, .ints .u64 c14_1])) (by kernel_rfl) (by kernel_rfl) (Ic.args hc15 (by kernel_rfl)) (by kernel_rfl) ?_
    refine W.adv 4 ?_
    exact W.fin (x := .ret) (by kernel_rfl) (Ans.of (d := (.agg [.bool c14_0, .ints .u64 c14_1])) (d' := (.agg [.bool c14_0, .ints .u64 c14_1])) (e' := (.agg [.bool c14_0, .ints .u64 c14_1])) (by kernel_rfl) (by kernel_rfl) (by kernel_rfl) (by rw [H.1, H.2]))
 ·rcases H with ⟨h16, H⟩ | ⟨h16, H⟩
  ·refine W.cond false (w := (a0_0 == a1_0)) (by kernel_rfl) (congr (congrArg (fun x y => x == y) (bfalse h1)) h16) ?_
   refine W.adv 9 ?_
   obtain ⟨c17t0, c17t1, hc18, H⟩ := H
   refine W.callR (g := 158) (ds := [.ints .u64 a0_1, .ints .u64 a1_1]) (es := [.ints .u64 a0_1, .ints .u64 a1_1]) (r := (.tuple [.ints .u64 c17t0, .int .i64 c17t1])) (by kernel_rfl) (by kernel_rfl) (Ic.args hc18 (by kernel_rfl)) (by kernel_rfl) ?_
   refine W.adv 13 ?_
   rcases H with ⟨h19, H⟩ | ⟨h19, H⟩
   ·refine W.cond true (w := (decide (c17t1 = 0))) (by kernel_rfl) (decide_eq_true h19) ?_
    refine W.adv 5 ?_
    obtain ⟨c20_0, c20_1, hc21, H⟩ := H
    refine W.callR (g := 148) (ds := [.bool a0_0, .ints .u64 c17t0]) (es := [.bool a0_0, .ints .u64 c17t0]) (r := (.agg [.bool c20_0, .ints .u64 c20_1])) (by kernel_rfl) (by kernel_rfl) (Ic.args hc21 (by kernel_rfl)) (by kernel_rfl) ?_
    refine W.adv 5 ?_
    exact W.fin (x := .ret) (by kernel_rfl) (Ans.of (d := (.agg [.bool c20_0, .ints .u64 c20_1])) (d' := (.agg [.bool c20_0, .ints .u64 c20_1])) (e' := (.agg [.bool c20_0, .ints .u64 c20_1])) (by kernel_rfl) (by kernel_rfl) (by kernel_rfl) (by rw [H.1, H.2]))
   ·refine W.cond false (w := (decide (c17t1 = 0))) (by kernel_rfl) (decide_eq_false h19) ?_
    refine W.adv 8 ?_
    obtain ⟨c22t0, c22t1, hc23, H⟩ := H
    refine W.callR (g := 158) (ds := [.ints .u64 a1_1, .ints .u64 a0_1]) (es := [.ints .u64 a1_1, .ints .u64 a0_1]) (r := (.tuple [.ints .u64 c22t0, .int .i64 c22t1])) (by kernel_rfl) (by kernel_rfl) (Ic.args hc23 (by kernel_rfl)) (by kernel_rfl) ?_
    refine W.adv 12 ?_
    obtain ⟨c24_0, c24_1, hc25, H⟩ := H
    refine W.callR (g := 148) (ds := [.bool a1_0, .ints .u64 c22t0]) (es := [.bool a1_0, .ints .u64 c22t0]) (r := (.agg [.bool c24_0, .ints .u64 c24_1])) (by kernel_rfl) (by kernel_rfl) (Ic.args hc25 (by kernel_rfl)) (by kernel_rfl) ?_
    refine W.adv 4 ?_
    exact W.fin (x := .ret) (by kernel_rfl) (Ans.of (d := (.agg [.bool c24_0, .ints .u64 c24_1])) (d' := (.agg [.bool c24_0, .ints .u64 c24_1])) (e' := (.agg [.bool c24_0, .ints .u64 c24_1])) (by kernel_rfl) (by kernel_rfl) (by kernel_rfl) (by rw [H.1, H.2]))
  ·refine W.cond true (w := (a0_0 == a1_0)) (by kernel_rfl) (congr (congrArg (fun x y => x == y) (bfalse h1)) (bfalse h16)) ?_
   refine W.adv 8 ?_
   obtain ⟨c26, hc27, H⟩ := H
   refine W.callR (g := 149) (ds := [.ints .u64 a0_1, .ints .u64 a1_1]) (es := [.ints .u64 a0_1, .ints .u64 a1_1]) (r := (.ints .u64 c26)) (by kernel_rfl) (by kernel_rfl) (Ic.args hc27 (by kernel_rfl)) (by kernel_rfl) ?_
   obtain ⟨c28_0, c28_1, hc29, H⟩ := H
   refine W.callR (g := 148) (ds := [.bool a0_0, .ints .u64 c26]) (es := [.bool a0_0, .ints .u64 c26]) (r := (.agg [.bool c28_0, .ints .u64 c28_1])) (by kernel_rfl) (by kernel_rfl) (Ic.args hc29 (by kernel_rfl)) (by kernel_rfl) ?_
   refine W.adv 5 ?_
   exact W.fin (x := .ret) (by kernel_rfl) (Ans.of (d := (.agg [.bool c28_0, .ints .u64 c28_1])) (d' := (.agg [.bool c28_0, .ints .u64 c28_1])) (e' := (.agg [.bool c28_0, .ints .u64 c28_1])) (by kernel_rfl) (by kernel_rfl) (by kernel_rfl) (by rw [H.1, H.2]))
theorem whole_Mul_go {a0_0 : Bool} {a0_1 : List Int} {a1_0 : Bool} {a1_1 : List Int} {z_0 : Bool} {z_1 : List Int} (H : (∃ c1 : List Int, (mul_Mul_R a0_1 a1_1 c1 ∧ (∃ c3_0 : Bool, (∃ c3_1 : List Int, (whole_Made_R (!(a0_0 == a1_0)) c1 c3_0 c3_1 ∧ (z_0 = c3_0 ∧ z_1 = c3_1))))))) : whole_Mul_R a0_0 a0_1 a1_0 a1_1 z_0 z_1 := by
 refine W.ic (zs := [(.agg [.bool a0_0, .ints .u64 a0_1]), (.agg [.bool a1_0, .ints .u64 a1_1])]) Tryz.func113 (by kernel_rfl) (by kernel_rfl) (by kernel_rfl) (by kernel_rfl) ?_
 refine W.adv 18 ?_
 obtain ⟨c1, hc2, H⟩ := H
 refine W.callR (g := 159) (ds := [.ints .u64 a0_1, .ints .u64 a1_1]) (es := [.ints .u64 a0_1, .ints .u64 a1_1]) (r := (.ints .u64 c1)) (by kernel_rfl) (by kernel_rfl) (Ic.args hc2 (by kernel_rfl)) (by kernel_rfl) ?_
 obtain ⟨c3_0, c3_1, hc4, H⟩ := H
 refine W.callR (g := 148) (ds := [(.bool (!(a0_0 == a1_0))), .ints .u64 c1]) (es := [(.bool (!(a0_0 == a1_0))), .ints .u64 c1]) (r := (.agg [.bool c3_0, .ints .u64 c3_1])) (by kernel_rfl) (by kernel_rfl) (Ic.args hc4 (by kernel_rfl)) (by kernel_rfl) ?_
 refine W.adv 4 ?_
 exact W.fin (x := .ret) (by kernel_rfl) (Ans.of (d := (.agg [.bool c3_0, .ints .u64 c3_1])) (d' := (.agg [.bool c3_0, .ints .u64 c3_1])) (e' := (.agg [.bool c3_0, .ints .u64 c3_1])) (by kernel_rfl) (by kernel_rfl) (by kernel_rfl) (by rw [H.1, H.2]))
theorem ref07_made_go {a0 : Bool} {a1 : List Int} {z_0 : Bool} {z_1 : List Int} (H : ((a0 = true ∧ (z_0 = (decide (0 < (a1.length : Int))) ∧ z_1 = a1)) ∨ (¬ a0 = true ∧ (z_0 = false ∧ z_1 = a1)))) : ref07_made_R a0 a1 z_0 z_1 := by
 refine W.ic (zs := [.bool a0, .ints .i64 a1]) Tryz.func125 (by kernel_rfl) (by kernel_rfl) (by kernel_rfl) (by kernel_rfl) ?_
 refine W.adv 9 ?_
 rcases H with ⟨h1, H⟩ | ⟨h1, H⟩
 ·refine W.guard true (w := (a0 == true)) (by kernel_rfl) (congrArg (fun b => b == true) h1) ?_
  refine W.adv 1 ?_
  refine W.guard true (w := (a0 == true)) (by kernel_rfl) (congrArg (fun b => b == true) h1) ?_
  refine W.adv 1 ?_
  refine W.guard true (w := (a0 == true)) (by kernel_rfl) (congrArg (fun b => b == true) h1) ?_
  refine W.adv 1 ?_
  refine W.opS (OpIs.pk true (t := a0) (x := (.bool (decide (0 < (a1.length : Int))))) (y := (.bool false)) (by kernel_rfl) h1) ?_
  refine W.adv 6 ?_
  exact W.fin (x := .ret) (by kernel_rfl) (Ans.of (d := (.agg [(.bool (decide (0 < (a1.length : Int)))), .ints .i64 a1])) (d' := (.agg [(.bool (decide (0 < (a1.length : Int)))), .ints .i64 a1])) (e' := (.agg [(.bool (decide (0 < (a1.length : Int)))), .ints .i64 a1])) (by kernel_rfl) (by kernel_rfl) (by kernel_rfl) (by rw [H.1, H.2]))
 ·refine W.guard false (w := (a0 == true)) (by kernel_rfl) (congrArg (fun b => b == true) (bfalse h1)) ?_
  refine W.guard false (w := (a0 == true)) (by kernel_rfl) (congrArg (fun b => b == true) (bfalse h1)) ?_
  refine W.guard false (w := (a0 == true)) (by kernel_rfl) (congrArg (fun b => b == true) (bfalse h1)) ?_
  refine W.opS (OpIs.pk false (t := a0) (x := (.tuple [])) (y := (.bool false)) (by kernel_rfl) (bfalse h1)) ?_
  refine W.adv 6 ?_
  exact W.fin (x := .ret) (by kernel_rfl) (Ans.of (d := (.agg [.bool false, .ints .i64 a1])) (d' := (.agg [.bool false, .ints .i64 a1])) (e' := (.agg [.bool false, .ints .i64 a1])) (by kernel_rfl) (by kernel_rfl) (by kernel_rfl) (by rw [H.1, H.2]))
theorem whole_Made_go {a0 : Bool} {a1 : List Int} {z_0 : Bool} {z_1 : List Int} (H : (∃ c1t0 : List Int, (∃ c1t1 : Int, (nat_Make_R a1 c1t0 c1t1 ∧ ((a0 = true ∧ (z_0 = (decide (0 < (c1t0.length : Int))) ∧ z_1 = c1t0)) ∨ (¬ a0 = true ∧ (z_0 = false ∧ z_1 = c1t0))))))) : whole_Made_R a0 a1 z_0 z_1 := by
 refine W.ic (zs := [.bool a0, .ints .u64 a1]) Tryz.func148 (by kernel_rfl) (by kernel_rfl) (by kernel_rfl) (by kernel_rfl) ?_
 refine W.adv 8 ?_
 obtain ⟨c1t0, c1t1, hc2, H⟩ := H
 refine W.callR (g := 180) (ds := [.ints .u64 a1]) (es := [.ints .u64 a1]) (r := (.tuple [.ints .u64 c1t0, .int .i64 c1t1])) (by kernel_rfl) (by kernel_rfl) (Ic.args hc2 (by kernel_rfl)) (by kernel_rfl) ?_
 refine W.adv 11 ?_
 rcases H with ⟨h3, H⟩ | ⟨h3, H⟩
 ·refine W.guard true (w := (a0 == true)) (by kernel_rfl) (congrArg (fun b => b == true) h3) ?_
  refine W.adv 1 ?_
  refine W.guard true (w := (a0 == true)) (by kernel_rfl) (congrArg (fun b => b == true) h3) ?_
  refine W.adv 1 ?_
  refine W.guard true (w := (a0 == true)) (by kernel_rfl) (congrArg (fun b => b == true) h3) ?_
  refine W.adv 1 ?_
  refine W.opS (OpIs.pk true (t := a0) (x := (.bool (decide (0 < (c1t0.length : Int))))) (y := (.bool false)) (by kernel_rfl) h3) ?_
  refine W.adv 6 ?_
  exact W.fin (x := .ret) (by kernel_rfl) (Ans.of (d := (.agg [(.bool (decide (0 < (c1t0.length : Int)))), .ints .u64 c1t0])) (d' := (.agg [(.bool (decide (0 < (c1t0.length : Int)))), .ints .u64 c1t0])) (e' := (.agg [(.bool (decide (0 < (c1t0.length : Int)))), .ints .u64 c1t0])) (by kernel_rfl) (by kernel_rfl) (by kernel_rfl) (by rw [H.1, H.2]))
 ·refine W.guard false (w := (a0 == true)) (by kernel_rfl) (congrArg (fun b => b == true) (bfalse h3)) ?_
  refine W.guard false (w := (a0 == true)) (by kernel_rfl) (congrArg (fun b => b == true) (bfalse h3)) ?_
  refine W.guard false (w := (a0 == true)) (by kernel_rfl) (congrArg (fun b => b == true) (bfalse h3)) ?_
  refine W.opS (OpIs.pk false (t := a0) (x := (.tuple [])) (y := (.bool false)) (by kernel_rfl) (bfalse h3)) ?_
  refine W.adv 6 ?_
  exact W.fin (x := .ret) (by kernel_rfl) (Ans.of (d := (.agg [.bool false, .ints .u64 c1t0])) (d' := (.agg [.bool false, .ints .u64 c1t0])) (e' := (.agg [.bool false, .ints .u64 c1t0])) (by kernel_rfl) (by kernel_rfl) (by kernel_rfl) (by rw [H.1, H.2]))
end Go.Proofs.YtjcdkemnflmfiaaGreatA
