/- Walks through the functions: what makes each relation true. -/
import Derived.Test.YtjcdkemnflmfiaaGreatW0
set_option linter.unusedVariables false
set_option maxRecDepth 100000
namespace Go.Proofs.YtjcdkemnflmfiaaGreatA
open Go Go.Proofs
/-! ### trivium/addr.Has -/
theorem addr_Has_go {a0_0 : Int} {a0_1 : Int} {a1 : Int} {z : Bool} (H : (∃ c1 : Bool, (addr_May_R a0_0 a0_1 c1 ∧ ((c1 = true ∧ (∃ c4 : Int, (addr_Mask_R a0_1 c4 ∧ (z = (decide ((bits .and .u32 a1 c4) = a0_0)))))) ∨ (¬ c1 = true ∧ (z = false)))))) : addr_Has_R a0_0 a0_1 a1 z := by
  refine W.ic (zs := [(.agg [(.int .u32 a0_0), (.int .i64 a0_1)]), (.int .u32 a1)]) Tryz.func134 (by kernel_rfl) (by kernel_rfl) (by kernel_rfl) (by kernel_rfl) ?_
  refine W.adv 9 ?_
  obtain ⟨c1, hc2, H⟩ := H
  refine W.callR (g := 75) (ds := [(.agg [(.int .u32 a0_0), (.int .i64 a0_1)])]) (es := [(.agg [(.int .u32 a0_0), (.int .i64 a0_1)])]) (r := (.bool c1)) (by kernel_rfl) (by kernel_rfl) (Ic.args hc2 (by kernel_rfl)) (by kernel_rfl) ?_
  refine W.adv 1 ?_
  rcases H with ⟨h3, H⟩ | ⟨h3, H⟩
  · refine W.guard true (w := (c1 == true)) (by kernel_rfl) (congrArg (fun b => b == true) h3) ?_
    refine W.adv 1 ?_
    refine W.guard true (w := (c1 == true)) (by kernel_rfl) (congrArg (fun b => b == true) h3) ?_
    refine W.adv 1 ?_
    refine W.guard true (w := (c1 == true)) (by kernel_rfl) (congrArg (fun b => b == true) h3) ?_
    refine W.adv 1 ?_
    refine W.guard true (w := (c1 == true)) (by kernel_rfl) (congrArg (fun b => b == true) h3) ?_
    obtain ⟨c4, hc5, H⟩ := H
    refine W.callR (g := 132) (ds := [(.int .i64 a0_1)]) (es := [(.int .i64 a0_1)]) (r := (.int .u32 c4)) (by kernel_rfl) (by kernel_rfl) (Ic.args hc5 (by kernel_rfl)) (by kernel_rfl) ?_
    refine W.guard true (w := (c1 == true)) (by kernel_rfl) (congrArg (fun b => b == true) h3) ?_
    refine W.adv 1 ?_
    refine W.guard true (w := (c1 == true)) (by kernel_rfl) (congrArg (fun b => b == true) h3) ?_
    refine W.adv 1 ?_
    refine W.guard true (w := (c1 == true)) (by kernel_rfl) (congrArg (fun b => b == true) h3) ?_
    refine W.adv 1 ?_
    refine W.guard true (w := (c1 == true)) (by kernel_rfl) (congrArg (fun b => b == true) h3) ?_
    refine W.adv 1 ?_
    refine W.opS (OpIs.pk true (t := c1) (x := (.bool (decide ((bits .and .u32 a1 c4) = a0_0)))) (y := (.bool false)) (by kernel_rfl) h3) ?_
    refine W.adv 4 ?_
    exact W.fin (x := .ret) (by kernel_rfl) (Ans.of (d := (.bool (decide ((bits .and .u32 a1 c4) = a0_0)))) (d' := (.bool (decide ((bits .and .u32 a1 c4) = a0_0)))) (e' := (.bool (decide ((bits .and .u32 a1 c4) = a0_0)))) (by kernel_rfl) (by kernel_rfl) (by kernel_rfl) (by rw [H]))
  · refine W.guard false (w := (c1 == true)) (by kernel_rfl) (congrArg (fun b => b == true) (bfalse h3)) ?_
    refine W.guard false (w := (c1 == true)) (by kernel_rfl) (congrArg (fun b => b == true) (bfalse h3)) ?_
    refine W.guard false (w := (c1 == true)) (by kernel_rfl) (congrArg (fun b => b == true) (bfalse h3)) ?_
    refine W.guard false (w := (c1 == true)) (by kernel_rfl) (congrArg (fun b => b == true) (bfalse h3)) ?_
    refine W.guard false (w := (c1 == true)) (by kernel_rfl) (congrArg (fun b => b == true) (bfalse h3)) ?_
    refine W.guard false (w := (c1 == true)) (by kernel_rfl) (congrArg (fun b => b == true) (bfalse h3)) ?_
    refine W.guard false (w := (c1 == true)) (by kernel_rfl) (congrArg (fun b => b == true) (bfalse h3)) ?_
    refine W.guard false (w := (c1 == true)) (by kernel_rfl) (congrArg (fun b => b == true) (bfalse h3)) ?_
    refine W.opS (OpIs.pk false (t := c1) (x := (.tuple [])) (y := (.bool false)) (by kernel_rfl) (bfalse h3)) ?_
    refine W.adv 4 ?_
    exact W.fin (x := .ret) (by kernel_rfl) (Ans.of (d := (.bool false)) (d' := (.bool false)) (e' := (.bool false)) (by kernel_rfl) (by kernel_rfl) (by kernel_rfl) (by rw [H]))
end Go.Proofs.YtjcdkemnflmfiaaGreatA
