/- Walks through the functions: what makes each relation true. -/
import Derived.Test.YtjcdkemnflmfiaaGreatW0
set_option linter.unusedVariables false
set_option maxRecDepth 100000
namespace Go.Proofs.YtjcdkemnflmfiaaGreatA
open Go Go.Proofs
/-! ### trivium/lint.Covered$2 -/
theorem lint_Covered_2_v0_go {a0_0 : Int} {a0_1 : Int} {a1_0 : Int} {a1_1 : Int} {z : Bool} (H : (∃ c1 : Bool, (addr_Within_R a0_0 a0_1 a1_0 a1_1 c1 ∧ (z = (!c1))))) : lint_Covered_2_v0_R a0_0 a0_1 a1_0 a1_1 z := by
  refine W.ic (zs := [(.agg [(.int .u32 a0_0), (.int .i64 a0_1)]), (.ptr [(.int .u32 a1_0), (.int .i64 a1_1)])]) Tryz.func81 (by kernel_rfl) (by kernel_rfl) (by kernel_rfl) (by kernel_rfl) ?_
  refine W.adv 10 ?_
  obtain ⟨c1, hc2, H⟩ := H
  refine W.callR (g := 78) (ds := [(.agg [(.int .u32 a0_0), (.int .i64 a0_1)]), (.agg [(.int .u32 a1_0), (.int .i64 a1_1)])]) (es := [(.agg [(.int .u32 a0_0), (.int .i64 a0_1)]), (.agg [(.int .u32 a1_0), (.int .i64 a1_1)])]) (r := (.bool c1)) (by kernel_rfl) (by kernel_rfl) (Ic.args hc2 (by kernel_rfl)) (by kernel_rfl) ?_
  refine W.adv 5 ?_
  exact W.fin (x := .ret) (by kernel_rfl) (Ans.of (d := (.bool (!c1))) (d' := (.bool (!c1))) (e' := (.bool (!c1))) (by kernel_rfl) (by kernel_rfl) (by kernel_rfl) (by rw [H]))
end Go.Proofs.YtjcdkemnflmfiaaGreatA
