/- Walks through the functions: what makes each relation true. -/
import Derived.Test.YtjcdkemnflmfiaaGreatW0
set_option linter.unusedVariables false
set_option maxRecDepth 100000
namespace Go.Proofs.YtjcdkemnflmfiaaGreatA
open Go Go.Proofs
/-! ### trivium/triviumref18.Range -/
theorem ref18_Range_go {a0_0 : Int} {a0_1 : Int} {z_0 : Int} {z_1 : Int} (H : (∃ c1 : Bool, (ref18_May_R a0_0 a0_1 c1 ∧ ((c1 = true ∧ (∃ c4 : Int, (ref18_Size_R a0_1 c4 ∧ (z_0 = a0_0 ∧ z_1 = (IntKind.wrap .u32 (a0_0 + (IntKind.wrap .u32 ((wu (c4 - 1)))))))))) ∨ (¬ c1 = true ∧ (z_0 = 0 ∧ z_1 = 0)))))) : ref18_Range_R a0_0 a0_1 z_0 z_1 := by
  refine W.ic (zs := [(.agg [(.int .u32 a0_0), (.int .i64 a0_1)])]) Tryz.func83 (by kernel_rfl) (by kernel_rfl) (by kernel_rfl) (by kernel_rfl) ?_
  refine W.adv 10 ?_
  obtain ⟨c1, hc2, H⟩ := H
  refine W.callR (g := 82) (ds := [(.agg [(.int .u32 a0_0), (.int .i64 a0_1)])]) (es := [(.agg [(.int .u32 a0_0), (.int .i64 a0_1)])]) (r := (.bool c1)) (by kernel_rfl) (by kernel_rfl) (Ic.args hc2 (by kernel_rfl)) (by kernel_rfl) ?_
  refine W.adv 3 ?_
  rcases H with ⟨h3, H⟩ | ⟨h3, H⟩
  · refine W.cond false (w := (!c1)) (by kernel_rfl) (congrArg (fun b => !b) h3) ?_
    refine W.adv 10 ?_
    obtain ⟨c4, hc5, H⟩ := H
    refine W.callR (g := 135) (ds := [(.int .i64 a0_1)]) (es := [(.int .i64 a0_1)]) (r := (.int .u64 c4)) (by kernel_rfl) (by kernel_rfl) (Ic.args hc5 (by kernel_rfl)) (by kernel_rfl) ?_
    refine W.adv 8 ?_
    exact W.fin (x := .ret) (by kernel_rfl) (Ans.of (d := (.agg [(.int .u32 a0_0), (.int .u32 (IntKind.wrap .u32 (a0_0 + (IntKind.wrap .u32 ((wu (c4 - 1)))))))])) (d' := (.agg [(.int .u32 a0_0), (.int .u32 (IntKind.wrap .u32 (a0_0 + (IntKind.wrap .u32 ((wu (c4 - 1)))))))])) (e' := (.agg [(.int .u32 a0_0), (.int .u32 (IntKind.wrap .u32 (a0_0 + (IntKind.wrap .u32 ((wu (c4 - 1)))))))])) (by kernel_rfl) (by kernel_rfl) (by kernel_rfl) (by rw [H.1, H.2]))
  · refine W.cond true (w := (!c1)) (by kernel_rfl) (congrArg (fun b => !b) (bfalse h3)) ?_
    refine W.adv 8 ?_
    exact W.fin (x := .ret) (by kernel_rfl) (Ans.of (d := (.agg [(.int .u32 0), (.int .u32 0)])) (d' := (.agg [(.int .u32 0), (.int .u32 0)])) (e' := (.agg [(.int .u32 0), (.int .u32 0)])) (by kernel_rfl) (by kernel_rfl) (by kernel_rfl) (by rw [H.1, H.2]))
end Go.Proofs.YtjcdkemnflmfiaaGreatA
