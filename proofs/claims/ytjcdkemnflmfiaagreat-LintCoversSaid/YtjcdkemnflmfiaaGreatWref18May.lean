/- Walks through the functions: what makes each relation true. -/
import Derived.Test.YtjcdkemnflmfiaaGreatW0
set_option linter.unusedVariables false
set_option maxRecDepth 100000
namespace Go.Proofs.YtjcdkemnflmfiaaGreatA
open Go Go.Proofs
/-! ### trivium/triviumref18.May -/
theorem ref18_May_go {a0_0 : Int} {a0_1 : Int} {z : Bool} (H : ((0 ≤ a0_1 ∧ ((a0_1 ≤ 32 ∧ (∃ c3 : Int, (ref18_Size_R a0_1 c3 ∧ (c3 ≠ 0 ∧ (z = (decide (((wu (a0_0)).tmod c3) = 0))))))) ∨ (¬ a0_1 ≤ 32 ∧ (z = false)))) ∨ (¬ 0 ≤ a0_1 ∧ (z = false)))) : ref18_May_R a0_0 a0_1 z := by
  refine W.ic (zs := [(.agg [(.int .u32 a0_0), (.int .i64 a0_1)])]) Tryz.func82 (by kernel_rfl) (by kernel_rfl) (by kernel_rfl) (by kernel_rfl) ?_
  refine W.adv 12 ?_
  rcases H with ⟨h1, H⟩ | ⟨h1, H⟩
  · refine W.guard true (w := ((decide (0 ≤ a0_1)) == true)) (by kernel_rfl) (congrArg (fun b => b == true) (decide_eq_true h1)) ?_
    refine W.adv 1 ?_
    refine W.guard true (w := ((decide (0 ≤ a0_1)) == true)) (by kernel_rfl) (congrArg (fun b => b == true) (decide_eq_true h1)) ?_
    refine W.adv 1 ?_
    refine W.guard true (w := ((decide (0 ≤ a0_1)) == true)) (by kernel_rfl) (congrArg (fun b => b == true) (decide_eq_true h1)) ?_
    refine W.adv 1 ?_
    refine W.opS (OpIs.pk true (t := (decide (0 ≤ a0_1))) (x := (.bool (decide (a0_1 ≤ 32)))) (y := (.bool false)) (by kernel_rfl) (decide_eq_true h1)) ?_
    refine W.adv 1 ?_
    rcases H with ⟨h2, H⟩ | ⟨h2, H⟩
    · refine W.guard true (w := ((decide (a0_1 ≤ 32)) == true)) (by kernel_rfl) (congrArg (fun b => b == true) (decide_eq_true h2)) ?_
      refine W.adv 1 ?_
      refine W.guard true (w := ((decide (a0_1 ≤ 32)) == true)) (by kernel_rfl) (congrArg (fun b => b == true) (decide_eq_true h2)) ?_
      refine W.adv 1 ?_
      refine W.guard true (w := ((decide (a0_1 ≤ 32)) == true)) (by kernel_rfl) (congrArg (fun b => b == true) (decide_eq_true h2)) ?_
      refine W.adv 1 ?_
      refine W.guard true (w := ((decide (a0_1 ≤ 32)) == true)) (by kernel_rfl) (congrArg (fun b => b == true) (decide_eq_true h2)) ?_
      refine W.adv 1 ?_
      refine W.guard true (w := ((decide (a0_1 ≤ 32)) == true)) (by kernel_rfl) (congrArg (fun b => b == true) (decide_eq_true h2)) ?_
      refine W.adv 1 ?_
      refine W.guard true (w := ((decide (a0_1 ≤ 32)) == true)) (by kernel_rfl) (congrArg (fun b => b == true) (decide_eq_true h2)) ?_
      obtain ⟨c3, hc4, H⟩ := H
      refine W.callR (g := 135) (ds := [(.int .i64 a0_1)]) (es := [(.int .i64 a0_1)]) (r := (.int .u64 c3)) (by kernel_rfl) (by kernel_rfl) (Ic.args hc4 (by kernel_rfl)) (by kernel_rfl) ?_
      refine W.guard true (w := ((decide (a0_1 ≤ 32)) == true)) (by kernel_rfl) (congrArg (fun b => b == true) (decide_eq_true h2)) ?_
      obtain ⟨h5, H⟩ := H
      refine W.opS (OpIs.bn (op := .rem) (x := (.int .u64 (wu (a0_0)))) (y := (.int .u64 c3)) (by kernel_rfl) (remD h5)) ?_
      refine W.guard true (w := ((decide (a0_1 ≤ 32)) == true)) (by kernel_rfl) (congrArg (fun b => b == true) (decide_eq_true h2)) ?_
      refine W.adv 1 ?_
      refine W.opS (OpIs.pk true (t := (decide (a0_1 ≤ 32))) (x := (.bool (decide (((wu (a0_0)).tmod c3) = 0)))) (y := (.bool false)) (by kernel_rfl) (decide_eq_true h2)) ?_
      refine W.adv 4 ?_
      exact W.fin (x := .ret) (by kernel_rfl) (Ans.of (d := (.bool (decide (((wu (a0_0)).tmod c3) = 0)))) (d' := (.bool (decide (((wu (a0_0)).tmod c3) = 0)))) (e' := (.bool (decide (((wu (a0_0)).tmod c3) = 0)))) (by kernel_rfl) (by kernel_rfl) (by kernel_rfl) (by rw [H]))
    · refine W.guard false (w := ((decide (a0_1 ≤ 32)) == true)) (by kernel_rfl) (congrArg (fun b => b == true) (decide_eq_false h2)) ?_
      refine W.guard false (w := ((decide (a0_1 ≤ 32)) == true)) (by kernel_rfl) (congrArg (fun b => b == true) (decide_eq_false h2)) ?_
      refine W.guard false (w := ((decide (a0_1 ≤ 32)) == true)) (by kernel_rfl) (congrArg (fun b => b == true) (decide_eq_false h2)) ?_
      refine W.guard false (w := ((decide (a0_1 ≤ 32)) == true)) (by kernel_rfl) (congrArg (fun b => b == true) (decide_eq_false h2)) ?_
      refine W.guard false (w := ((decide (a0_1 ≤ 32)) == true)) (by kernel_rfl) (congrArg (fun b => b == true) (decide_eq_false h2)) ?_
      refine W.guard false (w := ((decide (a0_1 ≤ 32)) == true)) (by kernel_rfl) (congrArg (fun b => b == true) (decide_eq_false h2)) ?_
      refine W.guard false (w := ((decide (a0_1 ≤ 32)) == true)) (by kernel_rfl) (congrArg (fun b => b == true) (decide_eq_false h2)) ?_
      refine W.guard false (w := ((decide (a0_1 ≤ 32)) == true)) (by kernel_rfl) (congrArg (fun b => b == true) (decide_eq_false h2)) ?_
      refine W.opS (OpIs.pk false (t := (decide (a0_1 ≤ 32))) (x := (.tuple [])) (y := (.bool false)) (by kernel_rfl) (decide_eq_false h2)) ?_
      refine W.adv 4 ?_
      exact W.fin (x := .ret) (by kernel_rfl) (Ans.of (d := (.bool false)) (d' := (.bool false)) (e' := (.bool false)) (by kernel_rfl) (by kernel_rfl) (by kernel_rfl) (by rw [H]))
  · refine W.guard false (w := ((decide (0 ≤ a0_1)) == true)) (by kernel_rfl) (congrArg (fun b => b == true) (decide_eq_false h1)) ?_
    refine W.guard false (w := ((decide (0 ≤ a0_1)) == true)) (by kernel_rfl) (congrArg (fun b => b == true) (decide_eq_false h1)) ?_
    refine W.guard false (w := ((decide (0 ≤ a0_1)) == true)) (by kernel_rfl) (congrArg (fun b => b == true) (decide_eq_false h1)) ?_
    refine W.opS (OpIs.pk false (t := (decide (0 ≤ a0_1))) (x := (.tuple [])) (y := (.bool false)) (by kernel_rfl) (decide_eq_false h1)) ?_
    refine W.adv 14 ?_
    exact W.fin (x := .ret) (by kernel_rfl) (Ans.of (d := (.bool false)) (d' := (.bool false)) (e' := (.bool false)) (by kernel_rfl) (by kernel_rfl) (by kernel_rfl) (by rw [H]))
end Go.Proofs.YtjcdkemnflmfiaaGreatA
