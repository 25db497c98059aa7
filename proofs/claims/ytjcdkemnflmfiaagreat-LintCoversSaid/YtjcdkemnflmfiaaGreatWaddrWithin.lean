/- Walks through the functions: what makes each relation true. -/
import Derived.Test.YtjcdkemnflmfiaaGreatW0
set_option linter.unusedVariables false
set_option maxRecDepth 100000
namespace Go.Proofs.YtjcdkemnflmfiaaGreatA
open Go Go.Proofs
/-! ### trivium/addr.Within -/
theorem addr_Within_go {a0_0 : Int} {a0_1 : Int} {a1_0 : Int} {a1_1 : Int} {z : Bool} (H : (∃ c1 : Bool, (addr_May_R a0_0 a0_1 c1 ∧ ((c1 = true ∧ ((a1_1 ≤ a0_1 ∧ (∃ c5 : Bool, (addr_Has_R a1_0 a1_1 a0_0 c5 ∧ (z = c5)))) ∨ (¬ a1_1 ≤ a0_1 ∧ (z = false)))) ∨ (¬ c1 = true ∧ (z = false)))))) : addr_Within_R a0_0 a0_1 a1_0 a1_1 z := by
  refine W.ic (zs := [(.agg [(.int .u32 a0_0), (.int .i64 a0_1)]), (.agg [(.int .u32 a1_0), (.int .i64 a1_1)])]) Tryz.func78 (by kernel_rfl) (by kernel_rfl) (by kernel_rfl) (by kernel_rfl) ?_
  refine W.adv 10 ?_
  obtain ⟨c1, hc2, H⟩ := H
  refine W.callR (g := 75) (ds := [(.agg [(.int .u32 a0_0), (.int .i64 a0_1)])]) (es := [(.agg [(.int .u32 a0_0), (.int .i64 a0_1)])]) (r := (.bool c1)) (by kernel_rfl) (by kernel_rfl) (Ic.args hc2 (by kernel_rfl)) (by kernel_rfl) ?_
  refine W.adv 1 ?_
  rcases H with ⟨h3, H⟩ | ⟨h3, H⟩
  · refine W.guard true (w := (c1 == true)) (by kernel_rfl) (congrArg (fun b => b == true) h3) ?_
    refine W.adv 1 ?_
    refine W.guard true (w := (c1 == true)) (by kernel_rfl) (congrArg (fun b => b == true) h3) ?_
    refine W.adv 1 ?_
    refine W.guard true (w := (c1 == true)) (by kernel_rfl) (congrArg (fun b => b == true) h3) ?_
    refine W.adv 1 ?_
    refine W.guard true (w := (c1 == true)) (by kernel_rfl) (congrArg (fun b => b == true) h3) ?_
    refine W.adv 1 ?_
    refine W.guard true (w := (c1 == true)) (by kernel_rfl) (congrArg (fun b => b == true) h3) ?_
    refine W.adv 1 ?_
    refine W.opS (OpIs.pk true (t := c1) (x := (.bool (decide (a1_1 ≤ a0_1)))) (y := (.bool false)) (by kernel_rfl) h3) ?_
    refine W.adv 1 ?_
    rcases H with ⟨h4, H⟩ | ⟨h4, H⟩
    · refine W.guard true (w := ((decide (a1_1 ≤ a0_1)) == true)) (by kernel_rfl) (congrArg (fun b => b == true) (decide_eq_true h4)) ?_
      refine W.adv 1 ?_
      refine W.guard true (w := ((decide (a1_1 ≤ a0_1)) == true)) (by kernel_rfl) (congrArg (fun b => b == true) (decide_eq_true h4)) ?_
      refine W.adv 1 ?_
      refine W.guard true (w := ((decide (a1_1 ≤ a0_1)) == true)) (by kernel_rfl) (congrArg (fun b => b == true) (decide_eq_true h4)) ?_
      refine W.adv 1 ?_
      refine W.guard true (w := ((decide (a1_1 ≤ a0_1)) == true)) (by kernel_rfl) (congrArg (fun b => b == true) (decide_eq_true h4)) ?_
      obtain ⟨c5, hc6, H⟩ := H
      refine W.callR (g := 134) (ds := [(.agg [(.int .u32 a1_0), (.int .i64 a1_1)]), (.int .u32 a0_0)]) (es := [(.agg [(.int .u32 a1_0), (.int .i64 a1_1)]), (.int .u32 a0_0)]) (r := (.bool c5)) (by kernel_rfl) (by kernel_rfl) (Ic.args hc6 (by kernel_rfl)) (by kernel_rfl) ?_
      refine W.opS (OpIs.pk true (t := (decide (a1_1 ≤ a0_1))) (x := (.bool c5)) (y := (.bool false)) (by kernel_rfl) (decide_eq_true h4)) ?_
      refine W.adv 4 ?_
      exact W.fin (x := .ret) (by kernel_rfl) (Ans.of (d := (.bool c5)) (d' := (.bool c5)) (e' := (.bool c5)) (by kernel_rfl) (by kernel_rfl) (by kernel_rfl) (by rw [H]))
    · refine W.guard false (w := ((decide (a1_1 ≤ a0_1)) == true)) (by kernel_rfl) (congrArg (fun b => b == true) (decide_eq_false h4)) ?_
      refine W.guard false (w := ((decide (a1_1 ≤ a0_1)) == true)) (by kernel_rfl) (congrArg (fun b => b == true) (decide_eq_false h4)) ?_
      refine W.guard false (w := ((decide (a1_1 ≤ a0_1)) == true)) (by kernel_rfl) (congrArg (fun b => b == true) (decide_eq_false h4)) ?_
      refine W.guard false (w := ((decide (a1_1 ≤ a0_1)) == true)) (by kernel_rfl) (congrArg (fun b => b == true) (decide_eq_false h4)) ?_
      refine W.opS (OpIs.pk false (t := (decide (a1_1 ≤ a0_1))) (x := (.tuple [])) (y := (.bool false)) (by kernel_rfl) (decide_eq_false h4)) ?_
      refine W.adv 4 ?_
      exact W.fin (x := .ret) (by kernel_rfl) (Ans.of (d := (.bool false)) (d' := (.bool false)) (e' := (.bool false)) (by kernel_rfl) (by kernel_rfl) (by kernel_rfl) (by rw [H]))
  · refine W.guard false (w := (c1 == true)) (by kernel_rfl) (congrArg (fun b => b == true) (bfalse h3)) ?_
    refine W.guard false (w := (c1 == true)) (by kernel_rfl) (congrArg (fun b => b == true) (bfalse h3)) ?_
    refine W.guard false (w := (c1 == true)) (by kernel_rfl) (congrArg (fun b => b == true) (bfalse h3)) ?_
    refine W.guard false (w := (c1 == true)) (by kernel_rfl) (congrArg (fun b => b == true) (bfalse h3)) ?_
    refine W.guard false (w := (c1 == true)) (by kernel_rfl) (congrArg (fun b => b == true) (bfalse h3)) ?_
    refine W.opS (OpIs.pk false (t := c1) (x := (.tuple [])) (y := (.bool false)) (by kernel_rfl) (bfalse h3)) ?_
    refine W.adv 10 ?_
    exact W.fin (x := .ret) (by kernel_rfl) (Ans.of (d := (.bool false)) (d' := (.bool false)) (e' := (.bool false)) (by kernel_rfl) (by kernel_rfl) (by kernel_rfl) (by rw [H]))
end Go.Proofs.YtjcdkemnflmfiaaGreatA
